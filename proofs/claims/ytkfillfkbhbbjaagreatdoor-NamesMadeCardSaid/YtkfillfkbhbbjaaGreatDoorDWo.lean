/- DX4, DWo. -/
import Derived.Test.YtkfillfkbhbbjaaGreatDoorDX3
import Derived.Test.YtkfillfkbhbbjaaGreatDoorArr
import Derived.Test.YtkfillfkbhbbjaaGreatDoorRegS
import Derived.Deep.RegionHeld3
import Derived.Test.YtkfillfkbhbbjaaGreatDoorDLawB
import Derived.Test.YtkfillfkbhbbjaaGreatDoorPrgA
set_option maxRecDepth 100000
set_option maxHeartbeats 4000000
set_option linter.unusedSimpArgs false
set_option linter.unusedVariables false
namespace Go.Proofs.YtkfillfkbhbbjaaGreatDoor
open Go.RowKit
def DH(st:DS):Prop:=∀c∈st.calls,∃u,st.uses[c.atU]? =some u∧u.how=0
theorem DH.use{st st1 st':DS}{u:Gq}(h:DH st)(h1:st1.uses=st.uses)(h2:st1.calls=st.calls)(hu:Jx st1 u=some st'):DH st':=by
 unfold Jx at hu;split at hu
 ·cases hu;intro c hc
  obtain ⟨v,h3,h4⟩:=h c (by rw [←h2];exact hc);refine ⟨v, ?_,h4⟩;show (st1.uses++ [u])[c.atU]? =_;rw [h1,List.getElem?_append_left (List.getElem?_eq_some_iff.1 h3).1];exact h3
 cases hu
theorem Ln{st st':DS}{t:Ae}{i:Nat}(h:Um st t=some (i,st')):st'.calls=st.calls:=by obtain ⟨th,rfl⟩:=Sw h;rfl
theorem DH.ev{st st':DS}{e:Ev}(h:DH st)(he:It st e=some st'):DH st':=by
 cases e with
 |see t re im=>
  exact que
 |use t arr re im=>
  exact que
 | kid t re im=>
  simp only [It,Option.bind_eq_some_iff] at he;obtain ⟨⟨i,d1⟩,h1,h2⟩:=he;have hu:=Gp h1;have hc:=Ln h1;unfold Jx at h2;split at h2
  ·cases h2;intro c hm
   rcases List.mem_append.1 hm with hm|hm
   ·obtain ⟨v,h3,h4⟩:=h c (by rw [←hc];exact hm);refine ⟨v, ?_,h4⟩;show (d1.uses++ [_])[c.atU]? =_;rw [hu,List.getElem?_append_left (List.getElem?_eq_some_iff.1 h3).1];exact h3
   rw [List.mem_singleton.1 hm];exact ⟨⟨i,0,re,im⟩,by show (d1.uses++ [_])[d1.uses.length]? =_;rw [List.getElem?_concat_length],rfl⟩
  cases h2
 |bad re im=>exact h.use rfl rfl he
 |link a p re im=>
  simp only [It,Option.bind_eq_some_iff,Option.some.injEq] at he;obtain ⟨⟨i,d1⟩,h1,⟨j,d2⟩,h2,d3,h3,x,-,y,-,rfl⟩:=he;exact h.use (st':=d3) ((Gp h2).trans (Gp h1)) ((Ln h2).trans (Ln h1)) h3
 |reg t=>
  simp only [It,Option.map_eq_some_iff] at he;obtain ⟨⟨i,d1⟩,h1,rfl⟩:=he;unfold DH;rw [Gp h1,Ln h1];exact h
theorem DH.evs:∀{l:List Ev} {st st':DS},DH st→Ee l st=some st'→DH st'
 | [],st,st',h,he=>by rw [Kc] at he;cases he;exact h
 | e::l,st,st',h,he=>by
   exact qne
theorem DH.no{st:DS}(h:DH st){i:Nat}(hi:i<st.uses.length)(h0:st.uses[i].how≠0):Bb st i=false:=by
 unfold Bb;rw [List.any_eq_false];intro c hc hq;obtain ⟨u,h1,h2⟩:=h c hc;rw [eq_of_beq hq,List.getElem?_eq_getElem hi] at h1
 cases h1
 exact h0 h2
def DkR(K:Br)(st:DS)(kf:List Int)(bad:Option Ic)(w:World)(r:Ending)(w':World):Prop:=
 ∃B,r= .returned (.slice (some ⟨B,0,none⟩) st.things.length st.things.length)∧w'.heap[B]? =some (LK kf)∧w.heap.size≤B∧K.w0.heap.size≤B∧(∃A' y,DK K A' y st w'∧(bad=none→y.e=0)∧∀f,bad=some f→y.E=f)∧Bh w w'
theorem DkR.of{K:Br}{st:DS}{kf:List Int}{bad:Option Ic}{w W:World}{B n:Nat}{A:DA}{y:DX}(hn:n=st.things.length)(h:W.heap[B]? =some (LK kf))(h1:K.w0.heap.size≤B∧w.heap.size≤B)(hd:DK K A y st W)(hy:(bad=none→y.e=0)∧∀f,bad=some f→y.E=f)(hs:Bh w W):DkR K st kf bad w (.returned (.slice (some ⟨B,0,none⟩) n n)) W:=by
 subst hn;exact ⟨B,rfl,h,h1.2,h1.1,⟨A,y,hd,hy⟩,hs⟩
theorem VH{y:DX}{u:Gq}(h:y.e=0):(some (30,u.re,u.im)=(none:Option Ic)→(Dd y 30 u.re u.im).e=0)∧∀f,some (30,u.re,u.im)=some f→(Dd y 30 u.re u.im).E=f:=by
 refine ⟨fun h=>(by cases h),fun f hf=> ?_⟩
 cases hf
 unfold Dd;rw [if_pos h];rfl
theorem acZ(a:Act)(d:Nat)(v:Value):(a.put (some d) v).tmps.size=a.tmps.size:=by show (a.tmps.setIfInBounds d v).size=_;simp
theorem acG(a:Act)(d:Nat)(v:Value)(h:d<a.tmps.size):(a.put (some d) v).tmps[d]? =some v:=by
 show (a.tmps.setIfInBounds d v)[d]? =_;simp [h]
theorem acH(a:Act)(d j:Nat)(v:Value)(h:d≠j):(a.put (some d) v).tmps[j]? =a.tmps[j]? :=by
 show (a.tmps.setIfInBounds d v)[j]? =_;simp [h]
theorem AC{o:Oper}{ops:Array Oper}{a:Act}{g:Nat}{d:Tmp}{b:Bool}(b':Bool)(hg:o.guard=some (g,b))(hd:(ops[g]?).bind (·.dst)=some d)(hv:a.tmps[d]? =some (.bool b')):Region.wanted o (yielded ops a.tmps)=(b'==b):=by
 unfold Region.wanted;rw [hg];show (yielded ops a.tmps g==some b)=_;unfold yielded;rw [hd,Option.bind_some,hv]
 cases b<;>cases b'<;>rfl
theorem Aau{o:Oper}{ops:Array Oper}{a:Act}{g:Nat}{d:Tmp}{b:Bool}(hg:o.guard=some (g,b))(hd:(ops[g]?).bind (·.dst)=some d)(hv:a.tmps[d]? =some undef):Region.wanted o (yielded ops a.tmps)=false:=by
 unfold Region.wanted;rw [hg];show (yielded ops a.tmps g==some b)=_;unfold yielded;rw [hd,Option.bind_some,hv]
 rfl
section
variable {P:Program} {ops:Array Oper} {Q:Exit→Act→World→Prop} {md:Region.Mode} {S:World→Prop} {i:Nat} {d:Tmp} {o:Oper} {v:Value} {fuel:Nat} {listed:Array Bool} {a:Act} {w:World}
theorem YM(hi:ops[i]? =some o)(hd:o.dst=some d)(hs:Region.noSelect ops=true)(hf:Region.free md ops listed i=true)(hr:(Region.ready md ops listed).contains i=true)
  (hQ:∀c a w,Q (.panic c) (a.put (some d) v) w→Q (.panic c) a w) (hy:YieldsIf P ops S o v a) (hS:S w)
  (h:wpAnyH P md ops Q S fuel (listed.setIfInBounds i true) (a.put (some d) v) w):wpAnyH P md ops Q S (fuel+1) listed a w:=
 wpAnyH_take hi hs hf hr (by rw [hd];exact hQ) hy hS (by rw [hd];exact h)
theorem ZN{f:FuncId}{vals:Array Value}{c:Call}{R:Value→World→Prop}(hr:Region.ready md ops listed= [i])(ho:ops[i]? =some o)(hd:o.dst=some d)(hop:o.op= .call c)
  (hw:Region.wanted o (yielded ops a.tmps)=true) (hrun:(execOp a.eval o).run P w= .ok (.enter f vals) w) (hc:Calls P f vals w fun e w'=>∃v,e= .returned v∧R v w')
  (hK:∀v w',R v w'→S w'∧wpAnyH P md ops Q S fuel (listed.setIfInBounds i true) (a.put (some d) v) w'):wpAnyH P md ops Q S (fuel+1) listed a w:=
 wpAnyH_ready hr qg (AllReadyH.cons ho (fun K' hK'=>Pi hw c hop hrun hc fun v w' h=>hK'.out _ _ (hK v w' h).1 fun _=>by rw [hd];exact (hK v w' h).2) AllReadyH.nil)
theorem UU{c:Code}{a0:Act}(h:∀a,a=a0→Code.wp P c Q a w):Code.wp P c Q a0 w:=h a0 rfl
end
theorem RP{p:Prop}(h:p:=by repeat (first|(with_reducible exact acG _ _ _ (by simp only [acZ,hsz];decide))|rw [acH _ _ _ _ zi])):p:=h
section
variable {P:Program} {md:Region.Mode} {ops:Array Oper} {Q:Exit→Act→World→Prop} {S:World→Prop} {o:Oper} {v:Value} {fuel:Nat} {listed:Array Bool} {a:Act} {w:World}
theorem Pf(i:Nat)(d:Tmp)(hS:S w)(h:wpAnyH P md ops Q S fuel (listed.setIfInBounds i true) (a.put (some d) v) w)(hi:ops[i]? =some o:=by rfl)(hd:o.dst=some d:=by rfl)(hs:Region.noSelect ops=true:=by kernel_rfl)(hf:Region.free md ops listed i=true:=by kernel_rfl)(hr:(Region.ready md ops listed).contains i=true:=by kernel_rfl)
 (hQ:∀c a w,Q (.panic c) (a.put (some d) v) w→Q (.panic c) a w:=by exact fun _ _ _ h=>h) (hw:Region.wanted o (yielded ops a.tmps)=true:=by rfl) (hy:∀w,S w→(execOp a.eval o).run P w= .ok (.value v) w:=by intro w' hSw;(try dsimp only at hSw);go_simp;(try with_reducible rfl)):wpAnyH P md ops Q S (fuel+1) listed a w:=YM hi hd hs hf hr hQ (.inl ⟨hw,hy⟩) hS h
theorem Mt(i:Nat)(d:Tmp)(hS:S w)(h:wpAnyH P md ops Q S fuel (listed.setIfInBounds i true) (a.put (some d) v) w)(hi:ops[i]? =some o:=by rfl)(hd:o.dst=some d:=by rfl)(hs:Region.noSelect ops=true:=by kernel_rfl)(hf:Region.free md ops listed i=true:=by kernel_rfl)(hr:(Region.ready md ops listed).contains i=true:=by kernel_rfl)
 (hQ:∀c a w,Q (.panic c) (a.put (some d) v) w→Q (.panic c) a w:=by exact fun _ _ _ h=>h) (hw:Region.wanted o (yielded ops a.tmps)=true:=by exact (AC true rfl rfl RP).trans rfl) (hy:∀w,S w→(execOp a.eval o).run P w= .ok (.value v) w:=by intro w' hSw;(try dsimp only at hSw);go_simp;(try with_reducible rfl)):wpAnyH P md ops Q S (fuel+1) listed a w:=YM hi hd hs hf hr hQ (.inl ⟨hw,hy⟩) hS h
theorem Hm(i:Nat)(d:Tmp)(hS:S w)(h:wpAnyH P md ops Q S fuel (listed.setIfInBounds i true) (a.put (some d) v) w)(hi:ops[i]? =some o:=by rfl)(hd:o.dst=some d:=by rfl)(hs:Region.noSelect ops=true:=by kernel_rfl)(hf:Region.free md ops listed i=true:=by kernel_rfl)(hr:(Region.ready md ops listed).contains i=true:=by kernel_rfl)
 (hQ:∀c a w,Q (.panic c) (a.put (some d) v) w→Q (.panic c) a w:=by exact fun _ _ _ h=>h) (hw:Region.wanted o (yielded ops a.tmps)=true:=by exact (AC false rfl rfl RP).trans rfl) (hy:∀w,S w→(execOp a.eval o).run P w= .ok (.value v) w:=by intro w' hSw;(try dsimp only at hSw);go_simp;(try with_reducible rfl)):wpAnyH P md ops Q S (fuel+1) listed a w:=YM hi hd hs hf hr hQ (.inl ⟨hw,hy⟩) hS h
theorem Tj(i:Nat)(d:Tmp)(hS:S w)(h:wpAnyH P md ops Q S fuel (listed.setIfInBounds i true) (a.put (some d) undef) w)(hi:ops[i]? =some o:=by rfl)(hd:o.dst=some d:=by rfl)(hs:Region.noSelect ops=true:=by kernel_rfl)(hf:Region.free md ops listed i=true:=by kernel_rfl)(hr:(Region.ready md ops listed).contains i=true:=by kernel_rfl)
 (hQ:∀c a w,Q (.panic c) (a.put (some d) undef) w→Q (.panic c) a w:=by exact fun _ _ _ h=>h) (hw:Region.wanted o (yielded ops a.tmps)=false:=by exact Aau rfl rfl RP):wpAnyH P md ops Q S (fuel+1) listed a w:=YM hi hd hs hf hr hQ (.inr ⟨hw,rfl⟩) hS h
theorem Pe(i:Nat)(d:Tmp)(hS:S w)(h:wpAnyH P md ops Q S fuel (listed.setIfInBounds i true) (a.put (some d) undef) w)(hi:ops[i]? =some o:=by rfl)(hd:o.dst=some d:=by rfl)(hs:Region.noSelect ops=true:=by kernel_rfl)(hf:Region.free md ops listed i=true:=by kernel_rfl)(hr:(Region.ready md ops listed).contains i=true:=by kernel_rfl)
 (hQ:∀c a w,Q (.panic c) (a.put (some d) undef) w→Q (.panic c) a w:=by exact fun _ _ _ h=>h) (hw:Region.wanted o (yielded ops a.tmps)=false:=by exact (AC true rfl rfl RP).trans rfl):wpAnyH P md ops Q S (fuel+1) listed a w:=YM hi hd hs hf hr hQ (.inr ⟨hw,rfl⟩) hS h
theorem Fv(i:Nat)(d:Tmp)(hS:S w)(h:wpAnyH P md ops Q S fuel (listed.setIfInBounds i true) (a.put (some d) undef) w)(hi:ops[i]? =some o:=by rfl)(hd:o.dst=some d:=by rfl)(hs:Region.noSelect ops=true:=by kernel_rfl)(hf:Region.free md ops listed i=true:=by kernel_rfl)(hr:(Region.ready md ops listed).contains i=true:=by kernel_rfl)
 (hQ:∀c a w,Q (.panic c) (a.put (some d) undef) w→Q (.panic c) a w:=by exact fun _ _ _ h=>h) (hw:Region.wanted o (yielded ops a.tmps)=false:=by exact (AC false rfl rfl RP).trans rfl):wpAnyH P md ops Q S (fuel+1) listed a w:=YM hi hd hs hf hr hQ (.inr ⟨hw,rfl⟩) hS h
end
def KiB(K:Br)(A:DA)(y:DX)(st:DS)(kf:List Int)(bad:Option Ic)(w:World)(B:Nat)(g:Nat)(j:Value)(W:World):Prop:=
 ∃k:Nat,j= .int .i64 k∧k≤st.uses.length∧g=st.uses.length+1 -k∧Cj st kf k (st.uses.drop k)=some bad∧DK K A y st W∧Bh w W∧W.heap[B]? =some (LK kf)
theorem ki5{p:Prop}(h:p:=by
 go_wp2_with fail
 clear c3 l_c;rename_i b0 b1 b2 b3 b4 b5 b6 b7 b8 b9 b10 b11 b12 b13 b14 b15 b16 b17 b18 b19 b20 b21 b22 b23 b24 b25 b26 b27 b28 b29 b30 b31 b32 b33 b34 b35 b36 b37 b38 b39 b40 b41 b42 b43 b44 b45;clear b6 b7 b10 b17 b18 b24 b30 b31 b36 b40 b41 b43
 go_loopg [13] (st3.uses.length+1) (fun g j wr=>KiB K A1 y st3 kf bad w B g j wr)
 case atStart=>exact ⟨0,rfl,Nat.zero_le _,rfl,HBAD.1,HD.1.kp0 Av,HS.1.add Av,Ac.at (fp:= []) Av HR.1 qg⟩
 clear HD HS HR HBAD hk1 hk2 hlt;obtain ⟨k,rfl,hk1,hk2,he,hd,hs,hr⟩:=hrel;have HD:=zh hd;have HS:=zh hs;have HR:=zh hr;have HE:=zh he;clear hd hs hr he;obtain ⟨l_c,c0,c1,c2,c3,c4,c5,c6,c7,c8,c9,y0,y1,y2,y3,y4,y5,y6,y7,y8,y9⟩:=Ke HD.1.row;clear c0 c1 c2 c4 c5 c6 c7 c8 c9 y0 y1 y2 y3 y4 y5 y6 y7 y8 y9
 by_cases hlt:k<st3.uses.length
 ·cases gk with
  |zero=>omega
  | succ f=>
   obtain ⟨g2,hua,l2,d0,d1,d2⟩:=HD.1.useAt hlt;have hcap:=HD.1.uses.cap;rw [hua] at c3;clear hua;have hU:=HU.1 _ (List.getElem_mem hlt);have h:=HE.1;rw [List.drop_eq_getElem_cons hlt,Cj,Option.bind_eq_some_iff] at h;obtain ⟨b,hb,hnx⟩:=h;have HC:=zh (QC hb hU);have HNX:=zh hnx;have HNO:=zh (fun h0=>HH.1.no hlt h0);have hcl:st3.calls.length≤1000000:=Nat.le_trans HI.1.2.1 HI.1.2.2;clear hb hnx hU HE;generalize st3.uses[k]=u at*
   go_upto_region 37 with fail
   refine zsc ?_;rintro wq ⟨hk9,hr9⟩;obtain ⟨C,hC⟩:∃C,C=wr.heap.size:=⟨_,rfl⟩;rw [←hC] at hr9⊢;have HCB:=zh hr9;replace HS:=zh (HS.1.add hk9);replace HD:=zh (HD.1.kp0 hk9);replace HR:=zh (hk9.at HR.1 qg);clear hk9 hr9 hC l_c c3 l2 d0 d1 d2 hcap
   go_cut [228] (fun v W=>v= .bool b∧Bh w W∧DK K A1 y st3 W∧W.heap[B]? =some (LK kf)∧W.heap[C]? =some (.cells #[.int .i64 u.thing,.int .i64 u.how,.complex .f64 u.re u.im] 149 (0,0)))
   case first=>
    have l_c:=HD.1.lt;have l_C:=Ad HCB.1;have l_B:=Ad HR.1
    rcases HC.1 with ⟨h3,hb⟩|⟨h3,hp,t,r,v,ht,hr,hv,hb⟩|⟨hp,h3,hh,t,r,v,ht,hr,hv,hb⟩|⟨hp,h3,hh,hb⟩
    ·have e3:(u.how==3)=true:=by rw [h3];rfl
     subst hb;clear h3 HC HNO;refine UU fun a ha=> ?_
     have hsz:a.tmps.size=235:=by rw [ha];rfl
     have e0:a.tmps[0]'jh= .pointer (some ⟨K.c,0,none⟩):=(by rw [ha];intro h;rfl:∀h,a.tmps[0]'h= .pointer (some ⟨K.c,0,none⟩)) _;have e9:a.tmps[9]'jh= .slice (some ⟨B,0,none⟩) n n:=(by rw [ha];intro h;rfl:∀h,a.tmps[9]'h= .slice (some ⟨B,0,none⟩) n n) _;have e13:a.tmps[13]'jh= .int .i64 (k:Int):=(by rw [ha];intro h;rfl:∀h,a.tmps[13]'h= .int .i64 (k:Int)) _;have e14:a.tmps[14]'jh= .pointer (some ⟨C,0,none⟩):=(by rw [ha];intro h;rfl:∀h,a.tmps[14]'h= .pointer (some ⟨C,0,none⟩)) _;have HA:=zh ha;clear ha;refine jwc ?_;intro hSw;have HSw:=zh hSw;clear hSw;have HQ:=zh (Ac.drew [] wq);replace HCB:=zh (HQ.1.at HCB.1 qg);replace HR:=zh (HQ.1.at HR.1 qg);generalize wq.drew=wd at*
     refine Pf 0 194 HSw.1 ?_;refine Pf 1 195 HSw.1 ?_;refine Pf 2 196 HSw.1 ?_;refine Pf 3 197 HSw.1 ?_;refine Pe 4 198 HSw.1 ?_;refine Pe 5 199 HSw.1 ?_;refine Pe 6 200 HSw.1 ?_;refine Pe 7 201 HSw.1 ?_;refine Tj 8 202 HSw.1 ?_;refine Tj 9 203 HSw.1 ?_;refine Tj 10 204 HSw.1 ?_;refine Tj 11 205 HSw.1 ?_;refine Tj 12 206 HSw.1 ?_;refine Tj 13 207 HSw.1 ?_;refine Tj 14 208 HSw.1 ?_;refine Tj 15 209 HSw.1 ?_;refine Tj 16 210 HSw.1 ?_;refine Tj 17 211 HSw.1 ?_;refine Pe 18 212 HSw.1 ?_;refine Pf 19 213 HSw.1 ?_;refine Pf 20 214 HSw.1 ?_;refine Pe 21 215 HSw.1 ?_;refine Pe 22 216 HSw.1 ?_;refine Pe 23 217 HSw.1 ?_;refine Pe 24 218 HSw.1 ?_;refine Tj 25 219 HSw.1 ?_;refine Tj 26 220 HSw.1 ?_;refine Tj 27 221 HSw.1 ?_;refine Tj 28 222 HSw.1 ?_;refine Tj 29 223 HSw.1 ?_;refine Tj 30 224 HSw.1 ?_;refine Tj 31 225 HSw.1 ?_;refine Tj 32 226 HSw.1 ?_;refine Pe 33 227 HSw.1 ?_;refine Pf 34 228 HSw.1 ?_;refine EY ?_;rw [HA.1];clear HA hsz e0 e9 e13 e14 HSw;refine Ej ?_
     go_wp2_with fail
     go_meet
     case rel=>exact ⟨rfl,HS.1.add HQ.1,HD.1.kp0 HQ.1,HR.1,HCB.1⟩
    ·have e3:(u.how==3)=false:=beq_false_of_ne h3;have hhd:=HNO.1 jh;have hV:=hv;have hrn:r<n:=by rw [HN.1,←HKL.1];exact (List.getElem?_eq_some_iff.1 hv).1
     have hri:(r:Int)<(n:Int):=by omega
     have HKC:Hd (∀W:World,W.heap[B]? =some (LK kf)→W.cell? ⟨B,r,none⟩=some (.int .i64 v)):=zh fun W h=>by rw [Aa h r];simp [hV]
     have H50:Hd (∀W,Ac [] wq W→Calls Tryz.prog 50 #[.pointer (some ⟨K.c,0,none⟩),.int .i64 (t:Int)] W fun e w'=>∃x,e= .returned x∧x= .int .i64 (r:Int)∧Ac [] W w'):=zh fun W hk=>(Hw (HD.1.kp0 hk) HI.1.1 hr).mono fun e w' ⟨h1,h2⟩=>⟨_,h1,rfl,h2⟩
     have H87:Hd (∀W,Ac [] wq W→Calls Tryz.prog 87 #[.pointer (some ⟨K.c,0,none⟩),.int .i64 (k:Int)] W fun e w'=>∃x,e= .returned x∧x= .bool false∧Ac [] W w'):=zh fun W hk=>(Ps (HD.1.kp0 hk) k hcl).mono fun e w' ⟨h1,h2⟩=>⟨_,h1,by rw [hhd],h2⟩
     have HT:=zh ht;rw [ht] at HCB⊢;clear ht h3 HC HNO hr hv hhd hV;refine UU fun a ha=> ?_
     have hsz:a.tmps.size=235:=by rw [ha];rfl
     have e0:a.tmps[0]'jh= .pointer (some ⟨K.c,0,none⟩):=(by rw [ha];intro h;rfl:∀h,a.tmps[0]'h= .pointer (some ⟨K.c,0,none⟩)) _;have e9:a.tmps[9]'jh= .slice (some ⟨B,0,none⟩) n n:=(by rw [ha];intro h;rfl:∀h,a.tmps[9]'h= .slice (some ⟨B,0,none⟩) n n) _;have e13:a.tmps[13]'jh= .int .i64 (k:Int):=(by rw [ha];intro h;rfl:∀h,a.tmps[13]'h= .int .i64 (k:Int)) _;have e14:a.tmps[14]'jh= .pointer (some ⟨C,0,none⟩):=(by rw [ha];intro h;rfl:∀h,a.tmps[14]'h= .pointer (some ⟨C,0,none⟩)) _;have HA:=zh ha;clear ha;refine qwc ?_;intro hSw;have HSw:=zh hSw;clear hSw;have HQ:=zh (Ac.drew [] wq);replace HCB:=zh (HQ.1.at HCB.1 qg);replace HR:=zh (HQ.1.at HR.1 qg);generalize wq.drew=wd at*
     refine Pf 0 194 HSw.1 ?_;refine Pf 1 195 HSw.1 ?_;refine Pf 2 196 HSw.1 ?_;refine Pf 3 197 HSw.1 ?_;refine Hm 4 198 HSw.1 ?_;refine Hm 5 199 HSw.1 ?_;refine Hm 6 200 HSw.1 ?_;refine Hm 7 201 HSw.1 ?_;refine Mt 8 202 HSw.1 ?_;refine Mt 9 203 HSw.1 ?_;refine Mt 10 204 HSw.1 ?_;refine Mt 11 205 HSw.1 ?_;refine Mt 15 209 HSw.1 ?_;refine Mt 16 210 HSw.1 ?_;refine ZN (i:=12) (d:=206) (f:=50) (vals:= #[.pointer (some ⟨K.c,0,none⟩),.int .i64 (t:Int)]) qh rfl rfl rfl ((AC true rfl rfl RP).trans rfl) ?_ (H50.1 _ HQ.1) ?_
     ·go_simp
     rintro v' u0 ⟨rfl,hku⟩;replace HCB:=zh (hku.at HCB.1 qg);replace HR:=zh (hku.at HR.1 qg);replace HQ:=zh (HQ.1.trans hku qg);clear hku HSw;have hS0:(fun V=>V.cell? ⟨C,0,none⟩=some (.int .i64 (t:Int))∧V.cell? ⟨C,1,none⟩=some (.int .i64 u.how)∧V.cell? ⟨B,r,none⟩=some (.int .i64 v)) u0:=⟨Aa HCB.1 0,Aa HCB.1 1,HKC.1 _ HR.1⟩;refine ⟨hS0, ?_⟩;have HSw:=zh hS0;clear hS0;refine Mt 13 207 HSw.1 ?_;refine Mt 14 208 HSw.1 ?_
     cases hq:(v !=u.how) with
     |true=>
      refine Mt 17 211 HSw.1 ?_;refine Hm 18 212 HSw.1 ?_;refine Pf 19 213 HSw.1 ?_;refine Pf 20 214 HSw.1 ?_;refine Pe 21 215 HSw.1 ?_;refine Pe 22 216 HSw.1 ?_;refine Pe 23 217 HSw.1 ?_;refine Pe 24 218 HSw.1 ?_;refine Tj 25 219 HSw.1 ?_;refine Tj 26 220 HSw.1 ?_;refine Tj 27 221 HSw.1 ?_;refine Tj 28 222 HSw.1 ?_;refine Tj 29 223 HSw.1 ?_;refine Tj 30 224 HSw.1 ?_;refine Tj 31 225 HSw.1 ?_;refine Tj 32 226 HSw.1 ?_;refine Pe 33 227 HSw.1 ?_;refine Pf 34 228 HSw.1 ?_;have HBT:=zh (show Value.bool true=Value.bool b by rw [hb,hq]);exact jue
     |false=>
      refine Mt 17 211 HSw.1 ?_;refine Hm 18 212 HSw.1 ?_;refine Pf 19 213 HSw.1 ?_;refine Pf 20 214 HSw.1 ?_;refine Hm 21 215 HSw.1 ?_;refine Hm 22 216 HSw.1 ?_;refine ZN (i:=23) (d:=217) (f:=87) (vals:= #[.pointer (some ⟨K.c,0,none⟩),.int .i64 (k:Int)]) qh rfl rfl rfl ((AC false rfl rfl RP).trans rfl) ?_ (H87.1 _ HQ.1) ?_
      ·go_simp
      rintro v' u0 ⟨rfl,hku⟩;replace HCB:=zh (hku.at HCB.1 qg);replace HR:=zh (hku.at HR.1 qg);replace HQ:=zh (HQ.1.trans hku qg);clear hku HSw;have hS0:(fun V=>V.cell? ⟨C,0,none⟩=some (.int .i64 (t:Int))∧V.cell? ⟨C,1,none⟩=some (.int .i64 u.how)∧V.cell? ⟨B,r,none⟩=some (.int .i64 v)) u0:=⟨Aa HCB.1 0,Aa HCB.1 1,HKC.1 _ HR.1⟩;refine ⟨hS0, ?_⟩;have HSw:=zh hS0;clear hS0;refine Hm 24 218 HSw.1 ?_;refine Fv 25 219 HSw.1 ?_;refine Fv 26 220 HSw.1 ?_;refine Fv 27 221 HSw.1 ?_;refine Fv 28 222 HSw.1 ?_;refine Fv 29 223 HSw.1 ?_;refine Fv 30 224 HSw.1 ?_;refine Fv 31 225 HSw.1 ?_;refine Fv 32 226 HSw.1 ?_;refine Hm 33 227 HSw.1 ?_;refine Pf 34 228 HSw.1 ?_;have HBT:=zh (show Value.bool false=Value.bool b by rw [hb,hq]);exact jue
    ·have e3:(u.how==3)=false:=beq_false_of_ne h3;have hV:=hv;have hrn:r<n:=by rw [HN.1,←HKL.1];exact (List.getElem?_eq_some_iff.1 hv).1
     have hri:(r:Int)<(n:Int):=by omega
     have HKC:Hd (∀W:World,W.heap[B]? =some (LK kf)→W.cell? ⟨B,r,none⟩=some (.int .i64 v)):=zh fun W h=>by rw [Aa h r];simp [hV]
     have hhd:=hh;have H50:Hd (∀W,Ac [] wq W→Calls Tryz.prog 50 #[.pointer (some ⟨K.c,0,none⟩),.int .i64 (t:Int)] W fun e w'=>∃x,e= .returned x∧x= .int .i64 (r:Int)∧Ac [] W w'):=zh fun W hk=>(Hw (HD.1.kp0 hk) HI.1.1 hr).mono fun e w' ⟨h1,h2⟩=>⟨_,h1,rfl,h2⟩
     have H87:Hd (∀W,Ac [] wq W→Calls Tryz.prog 87 #[.pointer (some ⟨K.c,0,none⟩),.int .i64 (k:Int)] W fun e w'=>∃x,e= .returned x∧x= .bool true∧Ac [] W w'):=zh fun W hk=>(Ps (HD.1.kp0 hk) k hcl).mono fun e w' ⟨h1,h2⟩=>⟨_,h1,by rw [hhd],h2⟩
     have HT:=zh ht;rw [ht] at HCB⊢;clear ht h3 HC HNO hr hv hh hhd hV;refine UU fun a ha=> ?_
     have hsz:a.tmps.size=235:=by rw [ha];rfl
     have e0:a.tmps[0]'jh= .pointer (some ⟨K.c,0,none⟩):=(by rw [ha];intro h;rfl:∀h,a.tmps[0]'h= .pointer (some ⟨K.c,0,none⟩)) _;have e9:a.tmps[9]'jh= .slice (some ⟨B,0,none⟩) n n:=(by rw [ha];intro h;rfl:∀h,a.tmps[9]'h= .slice (some ⟨B,0,none⟩) n n) _;have e13:a.tmps[13]'jh= .int .i64 (k:Int):=(by rw [ha];intro h;rfl:∀h,a.tmps[13]'h= .int .i64 (k:Int)) _;have e14:a.tmps[14]'jh= .pointer (some ⟨C,0,none⟩):=(by rw [ha];intro h;rfl:∀h,a.tmps[14]'h= .pointer (some ⟨C,0,none⟩)) _;have HA:=zh ha;clear ha;refine qwc ?_;intro hSw;have HSw:=zh hSw;clear hSw;have HQ:=zh (Ac.drew [] wq);replace HCB:=zh (HQ.1.at HCB.1 qg);replace HR:=zh (HQ.1.at HR.1 qg);generalize wq.drew=wd at*
     refine Pf 0 194 HSw.1 ?_;refine Pf 1 195 HSw.1 ?_;refine Pf 2 196 HSw.1 ?_;refine Pf 3 197 HSw.1 ?_;refine Hm 4 198 HSw.1 ?_;refine Hm 5 199 HSw.1 ?_;refine Hm 6 200 HSw.1 ?_;refine Hm 7 201 HSw.1 ?_;refine Fv 8 202 HSw.1 ?_;refine Fv 9 203 HSw.1 ?_;refine Fv 10 204 HSw.1 ?_;refine Fv 11 205 HSw.1 ?_;refine Fv 12 206 HSw.1 ?_;refine Fv 13 207 HSw.1 ?_;refine Fv 14 208 HSw.1 ?_;refine Fv 15 209 HSw.1 ?_;refine Fv 16 210 HSw.1 ?_;refine Fv 17 211 HSw.1 ?_;refine Hm 18 212 HSw.1 ?_;refine Pf 19 213 HSw.1 ?_;refine Pf 20 214 HSw.1 ?_;refine Hm 21 215 HSw.1 ?_;refine Hm 22 216 HSw.1 ?_;refine ZN (i:=23) (d:=217) (f:=87) (vals:= #[.pointer (some ⟨K.c,0,none⟩),.int .i64 (k:Int)]) qh rfl rfl rfl ((AC false rfl rfl RP).trans rfl) ?_ (H87.1 _ HQ.1) ?_
     ·go_simp
     rintro v' u0 ⟨rfl,hku⟩;replace HCB:=zh (hku.at HCB.1 qg);replace HR:=zh (hku.at HR.1 qg);replace HQ:=zh (HQ.1.trans hku qg);clear hku HSw;have hS0:(fun V=>V.cell? ⟨C,0,none⟩=some (.int .i64 (t:Int))∧V.cell? ⟨C,1,none⟩=some (.int .i64 u.how)∧V.cell? ⟨B,r,none⟩=some (.int .i64 v)) u0:=⟨Aa HCB.1 0,Aa HCB.1 1,HKC.1 _ HR.1⟩;refine ⟨hS0, ?_⟩;have HSw:=zh hS0;clear hS0;refine Hm 24 218 HSw.1 ?_;refine Mt 25 219 HSw.1 ?_;refine Mt 26 220 HSw.1 ?_;refine Mt 27 221 HSw.1 ?_;refine Mt 28 222 HSw.1 ?_;refine ZN (i:=29) (d:=223) (f:=50) (vals:= #[.pointer (some ⟨K.c,0,none⟩),.int .i64 (t:Int)]) qh rfl rfl rfl ((AC true rfl rfl RP).trans rfl) ?_ (H50.1 _ HQ.1) ?_
     ·go_simp
     rintro v' u0 ⟨rfl,hku⟩;replace HCB:=zh (hku.at HCB.1 qg);replace HR:=zh (hku.at HR.1 qg);replace HQ:=zh (HQ.1.trans hku qg);clear hku HSw;have hS0:(fun V=>V.cell? ⟨C,0,none⟩=some (.int .i64 (t:Int))∧V.cell? ⟨C,1,none⟩=some (.int .i64 u.how)∧V.cell? ⟨B,r,none⟩=some (.int .i64 v)) u0:=⟨Aa HCB.1 0,Aa HCB.1 1,HKC.1 _ HR.1⟩;refine ⟨hS0, ?_⟩;have HSw:=zh hS0;clear hS0;refine Mt 30 224 HSw.1 ?_;refine Mt 31 225 HSw.1 ?_;refine Mt 32 226 HSw.1 ?_;refine Hm 33 227 HSw.1 ?_;refine Pf 34 228 HSw.1 ?_;refine EY ?_;rw [HA.1];clear HA hsz e0 e9 e13 e14 HSw;refine Ej ?_
     go_wp2_with fail
     go_meet
     case rel=>exact ⟨by rw [hb],HS.1.add HQ.1,HD.1.kp0 HQ.1,HR.1,by rw [HT.1];exact HCB.1⟩
    have e3:(u.how==3)=false:=beq_false_of_ne h3;have hhd:=hh;have H87:Hd (∀W,Ac [] wq W→Calls Tryz.prog 87 #[.pointer (some ⟨K.c,0,none⟩),.int .i64 (k:Int)] W fun e w'=>∃x,e= .returned x∧x= .bool false∧Ac [] W w'):=zh fun W hk=>(Ps (HD.1.kp0 hk) k hcl).mono fun e w' ⟨h1,h2⟩=>⟨_,h1,by rw [hhd],h2⟩
    clear h3 HC HNO hh hhd;refine UU fun a ha=> ?_
    have hsz:a.tmps.size=235:=by rw [ha];rfl
    have e0:a.tmps[0]'jh= .pointer (some ⟨K.c,0,none⟩):=(by rw [ha];intro h;rfl:∀h,a.tmps[0]'h= .pointer (some ⟨K.c,0,none⟩)) _;have e9:a.tmps[9]'jh= .slice (some ⟨B,0,none⟩) n n:=(by rw [ha];intro h;rfl:∀h,a.tmps[9]'h= .slice (some ⟨B,0,none⟩) n n) _;have e13:a.tmps[13]'jh= .int .i64 (k:Int):=(by rw [ha];intro h;rfl:∀h,a.tmps[13]'h= .int .i64 (k:Int)) _;have e14:a.tmps[14]'jh= .pointer (some ⟨C,0,none⟩):=(by rw [ha];intro h;rfl:∀h,a.tmps[14]'h= .pointer (some ⟨C,0,none⟩)) _;have HA:=zh ha;clear ha;refine jwc ?_;intro hSw;have HSw:=zh hSw;clear hSw;have HQ:=zh (Ac.drew [] wq);replace HCB:=zh (HQ.1.at HCB.1 qg);replace HR:=zh (HQ.1.at HR.1 qg);generalize wq.drew=wd at*
    refine Pf 0 194 HSw.1 ?_;refine Pf 1 195 HSw.1 ?_;refine Pf 2 196 HSw.1 ?_;refine Pf 3 197 HSw.1 ?_;refine Hm 4 198 HSw.1 ?_;refine Hm 5 199 HSw.1 ?_;refine Hm 6 200 HSw.1 ?_;refine Hm 7 201 HSw.1 ?_;refine Fv 8 202 HSw.1 ?_;refine Fv 9 203 HSw.1 ?_;refine Fv 10 204 HSw.1 ?_;refine Fv 11 205 HSw.1 ?_;refine Fv 12 206 HSw.1 ?_;refine Fv 13 207 HSw.1 ?_;refine Fv 14 208 HSw.1 ?_;refine Fv 15 209 HSw.1 ?_;refine Fv 16 210 HSw.1 ?_;refine Fv 17 211 HSw.1 ?_;refine Hm 18 212 HSw.1 ?_;refine Pf 19 213 HSw.1 ?_;refine Pf 20 214 HSw.1 ?_;refine Hm 21 215 HSw.1 ?_;refine Hm 22 216 HSw.1 ?_;refine ZN (i:=23) (d:=217) (f:=87) (vals:= #[.pointer (some ⟨K.c,0,none⟩),.int .i64 (k:Int)]) qh rfl rfl rfl ((AC false rfl rfl RP).trans rfl) ?_ (H87.1 _ HQ.1) ?_
    ·go_simp
    rintro v' u0 ⟨rfl,hku⟩;replace HCB:=zh (hku.at HCB.1 qg);replace HR:=zh (hku.at HR.1 qg);replace HQ:=zh (HQ.1.trans hku qg);clear hku HSw;have hS0:(fun V=>V.cell? ⟨C,1,none⟩=some (.int .i64 u.how)) u0:=Aa HCB.1 1;refine ⟨hS0, ?_⟩;have HSw:=zh hS0;clear hS0;refine Hm 24 218 HSw.1 ?_;refine Fv 25 219 HSw.1 ?_;refine Fv 26 220 HSw.1 ?_;refine Fv 27 221 HSw.1 ?_;refine Fv 28 222 HSw.1 ?_;refine Fv 29 223 HSw.1 ?_;refine Fv 30 224 HSw.1 ?_;refine Fv 31 225 HSw.1 ?_;refine Fv 32 226 HSw.1 ?_;refine Hm 33 227 HSw.1 ?_;refine Pf 34 228 HSw.1 ?_;refine EY ?_;rw [HA.1];clear HA hsz e0 e9 e13 e14 HSw;refine Ej ?_
    go_wp2_with fail
    go_meet
    case rel=>exact ⟨by rw [hb],HS.1.add HQ.1,HD.1.kp0 HQ.1,HR.1,HCB.1⟩
   obtain ⟨rfl,hs,hd,hr,hc⟩:=hcut;replace HS:=zh hs;replace HD:=zh hd;replace HR:=zh hr;replace HCB:=zh hc;clear hs hd hr hc HC HNO;generalize wc=wl at*
   cases b with
   |true=>
    have hbd:bad=some (30,u.re,u.im):=by have h:=HNX.1;rw [if_pos rfl] at h;exact (Option.some.inj h).symm
    subst hbd;obtain ⟨l_C,x0,x1,x2⟩:=QO HCB.1
    go_wp2_with fail
    refine WD ?_;rintro r9 w8 ⟨rfl,hd,hs⟩;replace HS:=zh (HS.1.trans hs);replace HR:=zh (hs.at HR.1 qg);have HYB:=zh (VH (u:=u) HYE.1);generalize Dd y 30 u.re u.im=y2 at*
    replace HD:=zh hd;clear hd hs l_C x0 x1 x2
    go_wp2_with fail
    refine Ap (v:= .slice (some ⟨B,0,none⟩) n n) (fun W=>Ac [] w8 W) Av (fun w1 hW=>by simp [results,Jo,go_sem]) rfl (fun w1 hW=>DkR.of HN.1 (hW.at HR.1 qg) HB0.1 (HD.1.kp0 hW) HYB.1 (HS.1.add hW))
   |false=>
    have HE2:=zh (show Cj st3 kf (k+1) (st3.uses.drop (k+1))=some bad by have h:=HNX.1;rw [if_neg qg] at h;exact h)
    go_wp2_with fail
    go_roundg f
    case measure=>omega
    case rel=>exact ⟨k+1,by first|rfl|(simp;done)|(simp;omega),by omega,by omega,HE2.1,HD.1.kp0 Av,HS.1.add Av,Ac.at (fp:= []) Av HR.1 qg⟩
 have hke:k=st3.uses.length:=by omega
 subst hke;have hbd:bad=none:=by have h:=HE.1;rw [List.drop_length,Cj] at h;exact (Option.some.inj h).symm
 subst hbd
 go_wp2_with fail
 refine Ap (v:= .slice (some ⟨B,0,none⟩) n n) (fun W=>Ac [] wr W) Av (fun w1 hW=>by simp [results,Jo,go_sem]) rfl (fun w1 hW=>DkR.of HN.1 (hW.at HR.1 qg) HB0.1 (HD.1.kp0 hW) ⟨fun _=>HYE.1,fun f h=>by cases h⟩ (HS.1.add hW))):p:=h
set_option maxHeartbeats 40000000 in
theorem GG{K:Br}(hK:Ff K){A:DA}{x:DX}{st st1 st2 st3:DS}{w:World}(h:DK K A x st w)(hi:DI st)(hx:x.e=0)(hwf:WH K.g)(hfl:Qw K.g=none)(h1:Ee YN st=some st1)(h2:Ee (LU K.g K.g.rules) st1=some st2)(h3:Ee (Ou K.g 0 K.g.funcs) st2=some st3)(hu:DU st3)(hh:DH st3){kf:List Int}(hk:Fq st3 st3.uses (List.replicate st3.things.length 0)=some kf){bad:Option Ic}(hb:Cj st3 kf 0 st3.uses=some bad):Calls Tryz.prog 49 #[.pointer (some ⟨K.c,0,none⟩)] w fun r w'=>DkR K st3 kf bad w r w':=by
 have HD:=zh h;have HI:=zh hi;have HX0:=zh hx;have HWF:=zh hwf;have HFL:=zh hfl;have HE:=zh h1;have HE2:=zh h2;have HEF:=zh h3;have HU:=zh hu;have HH:=zh hh;have HBAD:=zh hb;have HKF:=zh hk;clear h hi hx hwf hfl h1 h2 h3 hu hh hb hk
 go_enter Tryz.func49,Tryz.ntmps49
 go_wp2_with fail
 refine AG.mono ?_;rintro r w1 ⟨v,rfl,ho,hk⟩;have HO:=zh ho;replace HD:=zh (HD.1.kp0 hk);have HS:=zh (KT.of0 (ts:=JK) hk);clear ho hk
 go_wp2_with fail
 exact ki1
theorem IN:∀(l:List ByteArray) (k i:Nat) (hk:k<l.length),(Ot l[k] l i !=((i+k:Nat):Int))=Dn l[k] (l.take k)
 | x::l,0,i,hk=>by
   have:same x x=true:=Cv.2 rfl;simp [Ot,this,Dn]
 | x::l,k+1,i,hk=>by
   have hk':k<l.length:=by simpa using hk
   rw [List.getElem_cons_succ,List.take_succ_cons,Dn,Ot]
   by_cases h:same l[k] x=true
   ·rw [if_pos h,if_pos h];simp;omega
   rw [if_neg h,if_neg h];have:=IN l k (i+1) hk'
   rwa [show i+1+k=i+(k+1) from by omega] at this
theorem BG(g:Ah)(f:Az):∀(l pre:List ByteArray),Cz (Sy g f pre l)
 | [],pre=>Cz.none
 |s::l,pre=>((Cz.ite (Cz.some zi) Cz.none).or (Cz.ite (Cz.some zi) Cz.none)).or (BG g f l _)
abbrev DP(nm:ByteArray)(pa:Option Addr)(pl pc:Nat)(kd:Int)(bt:ByteArray)(bm:Nat)(ba:Option Addr)(bl bc br bi re im:Nat):Obj:= .cells #[.string nm,.slice pa pl pc,.int .i64 kd,.string bt,.float .f64 bm,.slice ba bl bc,.complex .f64 br bi,.complex .f64 re im] 61 (0,0)
def HdI(K:Br)(A:DA)(st:DS)(xe:DX)(w:World)(g:Nat)(j:Value)(W:World):Prop:=
 ∃(k:Nat) (y:DX),j= .int .i64 k∧k≤K.g.funcs.length∧g=K.g.funcs.length+1 -k∧Ce y (Ov K.g k (K.g.funcs.drop k))=xe∧DK K A y st W∧Bh w W
def HpI(K:Br)(A:DA)(st:DS)(q:Az)(xq:DX)(w:World)(B:Nat)(o:Obj)(g:Nat)(j:Value)(W:World):Prop:=
 ∃(k:Nat) (y:DX),j= .int .i64 k∧k≤q.params.length∧g=q.params.length+1 -k∧Ce y (Sy K.g q (q.params.take k) (q.params.drop k))=xq∧DK K A y st W∧Bh w W∧W.heap[B]? =some o
theorem GH{K:Br}(hK:Ff K){A:DA}{x:DX}{st:DS}{w:World}(h:DK K A x st w):Calls Tryz.prog 47 #[.pointer (some ⟨K.c,0,none⟩)] w fun r w'=>r= .returned (.tuple #[])∧DK K A (Ce x (Ov K.g 0 K.g.funcs)) st w'∧Bh w w':=by
 have HD0:=zh h;have hfs:=hK.small;obtain ⟨xe,he⟩:∃e,e=Ce x (Ov K.g 0 K.g.funcs):=⟨_,rfl⟩;have HE0:=zh he.symm;rw [←he];clear h he
 go_enter Tryz.func47,Tryz.ntmps47
 go_wp2_with fail
 go_loopg [2] (K.g.funcs.length+1) (fun g j wr=>HdI K A st xe w g j wr)
 case atStart=>exact ⟨0,x,rfl,Nat.zero_le _,rfl,HE0.1,HD0.1.kp0 Av,KT.of0 Av⟩
 clear HE0;obtain ⟨k,y,rfl,hk1,hk2,hey,hd,hs⟩:=hrel;have HD:=zh hd;have HS:=zh hs;have HEY:=zh hey;clear hd hs hey;obtain ⟨l_c,c0,c1,c2,c3,c4,c5,c6,c7,c8,c9,y0,y1,y2,y3,y4,y5,y6,y7,y8,y9⟩:=Ke HD.1.row;clear c0 c2 c3 c4 c5 c6 c7 c8 c9 y0 y2 y3 y4 y5 y6 y7 y8 y9
 by_cases hlt:k<K.g.funcs.length
 ·cases gk with
  |zero=>omega
  | succ f=>
   obtain ⟨g2,o2,pa,pc,bt,bm,ba,bl,bc,br,bi,hfa,d0,d1,d2,d3,d4,d5,d6,d7,hp,hn,l2⟩:=HD.1.funcS hK hlt;have HP:=zh hp;have hps:=hK.psmall _ (List.getElem_mem hlt)
   have HE2:=zh (show Ce (Ce (Ce (Ce y (if flook K.g K.g.funcs[k].name≠k+1 then some (29,K.g.funcs[k].re,K.g.funcs[k].im) else none)) (if Am K.g.funcs[k].name then some (28,K.g.funcs[k].re,K.g.funcs[k].im) else none)) (Sy K.g K.g.funcs[k] [] K.g.funcs[k].params)) (Ov K.g (k+1) (K.g.funcs.drop (k+1)))=xe by
    have h:=HEY.1;rw [List.drop_eq_getElem_cons hlt,Ov,Gg (((Cz.ite (Cz.some zi) Cz.none).or (Cz.ite (Cz.some zi) Cz.none)).or (BG _ _ _ _)),Gg ((Cz.ite (Cz.some zi) Cz.none).or (Cz.ite (Cz.some zi) Cz.none)),Gg (Cz.ite (Cz.some zi) Cz.none)] at h;exact h)
   rw [hfa] at c1;clear hp hn HEY;generalize K.g.funcs[k]=q at*
   go_wp2_with fail
   refine An (fun W=>Ac [] wr W∧W.heap[wr.heap.size]? =some (DP q.name pa q.params.length pc q.body.kind bt bm ba bl bc br bi q.re q.im)) ⟨Av,Nv⟩ ?_;rintro wa ⟨hka,hba⟩;have HBa:=zh hba;replace HS:=zh (HS.1.add hka);replace HD:=zh (HD.1.kp0 hka);obtain ⟨B,hB⟩:∃B,B=wr.heap.size:=⟨_,rfl⟩;rw [←hB] at HBa⊢;clear hka hba hB l_c c1 y1 d0 d1 d2 d3 d4 d5 d6 d7 l2;refine (Hh hK HD.1 q.name).mono ?_;rintro r wb ⟨rfl,hk⟩;have HBb:=zh (hk.at HBa.1 qg);replace HS:=zh (HS.1.add hk);replace HD:=zh (HD.1.kp0 hk);clear hk HBa
   go_upto_if 28 with fail
   obtain ⟨ya,hya⟩:∃z,z=Ce y (if flook K.g q.name≠k+1 then some (29,q.re,q.im) else none):=⟨_,rfl⟩;rw [←hya] at HE2;have HYA:=zh hya;clear hya
   go_cut [] (fun W=>DK K A ya st W∧Bh w W∧W.heap[B]? =some (DP q.name pa q.params.length pc q.body.kind bt bm ba bl bc br bi q.re q.im))
   case first=>
    obtain ⟨l_B,x0,x1,x2,x3,x4,x5,x6,x7,z0,z1,z2,z3,z4,z5,z6,z7⟩:=Rh HBb.1
    by_cases hq:flook K.g q.name≠k+1
    ·have hb:(((flook K.g q.name:Nat):Int) -1 !=(k:Int))=true:=by simp;omega
     rw [if_pos hq] at HYA;clear hq
     go_wp2_with fail
     refine WD ?_;rintro r w8 ⟨rfl,hd,hs⟩
     go_wp2_with fail
     go_meet
     case rel=>exact ⟨by rw [HYA.1];exact hd.kp0 Av,(HS.1.trans hs).add Av,Ac.at (fp:= []) Av (hs.at HBb.1 qg) qg⟩
    have hb:(((flook K.g q.name:Nat):Int) -1 !=(k:Int))=false:=by simp at hq⊢;omega
    rw [if_neg hq] at HYA;clear hq
    go_wp2_with fail
    go_meet
    case rel=>exact ⟨by rw [HYA.1];exact HD.1.kp0 Av,HS.1.add Av,Ac.at (fp:= []) Av HBb.1 qg⟩
   obtain ⟨hd,hs,hb⟩:=hcut;replace HD:=zh hd;replace HS:=zh hs;have HB:=zh hb;clear hd hs hb HBb HYA;generalize wc=wl at*
   obtain ⟨l_B,x0,x1,x2,x3,x4,x5,x6,x7,z0,z1,z2,z3,z4,z5,z6,z7⟩:=Rh HB.1
   go_wp2_with fail
   refine (Ia q.name _).mono ?_;rintro r w' ⟨rfl,hw'⟩;rw [hw'];clear hw' w'
   go_upto_if 35 with fail
   obtain ⟨yb,hyb⟩:∃z,z=Ce ya (if Am q.name then some (28,q.re,q.im) else none):=⟨_,rfl⟩;rw [←hyb] at HE2;have HYA:=zh hyb;clear hyb
   go_cut [] (fun W=>DK K A yb st W∧Bh w W∧W.heap[B]? =some (DP q.name pa q.params.length pc q.body.kind bt bm ba bl bc br bi q.re q.im))
   case first=>
    cases hb:Am q.name with
    |true=>
     rw [hb,if_pos rfl] at HYA
     go_wp2_with fail
     refine WD ?_;rintro r w8 ⟨rfl,hd,hs⟩
     go_wp2_with fail
     go_meet
     case rel=>exact ⟨by rw [HYA.1];exact hd.kp0 Av,(HS.1.trans hs).add Av,Ac.at (fp:= []) Av (hs.at HB.1 qg) qg⟩
    |false=>
     rw [hb,if_neg qg] at HYA
     go_wp2_with fail
     go_meet
     case rel=>exact ⟨by rw [HYA.1];exact HD.1.kp0 Av,HS.1.add Av,Ac.at (fp:= []) Av HB.1 qg⟩
   obtain ⟨hd,hs,hb⟩:=hcut;replace HD:=zh hd;replace HS:=zh hs;replace HB:=zh hb;clear hd hs hb HYA l_B x0 x1 x2 x3 x4 x5 x6 x7 z0 z1 z2 z3 z4 z5 z6 z7;generalize wc=wm at*
   obtain ⟨xq,hxq⟩:∃z,z=Ce yb (Sy K.g q [] q.params):=⟨_,rfl⟩;rw [←hxq] at HE2;have HQ:=zh hxq.symm;clear hxq
   go_wp2_with fail
   go_loopg [4] (q.params.length+1) (fun g j wr=>HpI K A st q xq w B (DP q.name pa q.params.length pc q.body.kind bt bm ba bl bc br bi q.re q.im) g j wr)
   case atStart=>exact ⟨0,yb,rfl,Nat.zero_le _,rfl,HQ.1,HD.1,HS.1,HB.1⟩
   clear HD HS HB HQ;obtain ⟨k',z,rfl,hk1',hk2',hez,hd,hs,hb⟩:=hrel;have HD:=zh hd;have HS:=zh hs;have HB:=zh hb;have HEZ:=zh hez;clear hd hs hb hez;obtain ⟨l_B,x0,x1,x2,x3,x4,x5,x6,x7,z0,z1,z2,z3,z4,z5,z6,z7⟩:=Rh HB.1
   by_cases hlt':k'<q.params.length
   ·cases gk with
    |zero=>omega
    | succ f'=>
     have HE3:=zh (show Ce (Ce (Ce z (if Dn q.params[k'] (q.params.take k') then some (29,q.re,q.im) else none)) (if Am q.params[k']||decide (flook K.g q.params[k']>0) then some (28,q.re,q.im) else none)) (Sy K.g q (q.params.take (k'+1)) (q.params.drop (k'+1)))=xq by
      have h:=HEZ.1;rw [List.drop_eq_getElem_cons hlt',Sy,Gg ((Cz.ite (Cz.some zi) Cz.none).or (Cz.ite (Cz.some zi) Cz.none)),Gg (Cz.ite (Cz.some zi) Cz.none),←List.take_succ_eq_append_getElem hlt'] at h;exact h)
     have HPI:=zh (IN q.params k' 0 hlt');obtain ⟨g3,o3,rfl,s0⟩:=Rx HD.1.keep HP.1 hlt';clear HEZ;generalize hs':q.params[k']=s at*
     go_upto_region 11 with fail
     go_cut [55] (fun v W=>v= .bool (Dn s (q.params.take k'))∧Ac [] wr W)
     case first=>
      have HPC:Hd (∀W,Ac [] wr W→Calls Tryz.prog 82 #[.agg #[.string q.name,.slice (some ⟨g3,o3,none⟩) q.params.length pc,.int .i64 q.body.kind,.string bt,.float .f64 bm,.slice ba bl bc,.complex .f64 br bi,.complex .f64 q.re q.im],.string s] W fun e w'=>∃u,e= .returned u∧u= .int .i64 (Ot s q.params 0)∧Ac [] wr w'):=
       zh fun W hk=>(Yx (HD.1.keep.trans hk qg) HP.1 hps q.name s).mono fun e w' ⟨h1,h2⟩=>⟨_,h1,rfl,hk.trans h2 qg⟩
      generalize Ot s q.params 0=pz at*
      go_region_law (refine Bd (f:=82) (vals:= #[.agg #[.string q.name,.slice (some ⟨g3,o3,none⟩) q.params.length pc,.int .i64 q.body.kind,.string bt,.float .f64 bm,.slice ba bl bc,.complex .f64 br bi,.complex .f64 q.re q.im],.string s]) rfl _ rfl qh (HPC.1 _ jg) ?_;rintro vv u_ ⟨rfl,hku⟩)
      all_goals
       go_wp2_with fail
       go_meet
       case rel=>exact ⟨by rw [←HPI.1];simp,hku.trans (fp':= []) Av qg⟩
     obtain ⟨rfl,hk⟩:=hcut;replace HD:=zh (HD.1.kp0 hk);replace HS:=zh (HS.1.add hk);replace HB:=zh (hk.at HB.1 qg);clear hk HPI l_B x0 x1 x2 x3 x4 x5 x6 x7 z0 z1 z2 z3 z4 z5 z6 z7 s0;generalize wc=wn at*
     obtain ⟨za,hza⟩:∃y,y=Ce z (if Dn s (q.params.take k') then some (29,q.re,q.im) else none):=⟨_,rfl⟩;rw [←hza] at HE3;have HZA:=zh hza;clear hza;generalize Dn s (q.params.take k')=mb at*
     go_upto_if 55 with fail
     go_cut [] (fun W=>DK K A za st W∧Bh w W∧W.heap[B]? =some (DP q.name (some ⟨g3,o3,none⟩) q.params.length pc q.body.kind bt bm ba bl bc br bi q.re q.im))
     case first=>
      obtain ⟨l_B,x0,x1,x2,x3,x4,x5,x6,x7,z0,z1,z2,z3,z4,z5,z6,z7⟩:=Rh HB.1
      cases mb with
      |true=>
       rw [if_pos rfl] at HZA
       go_wp2_with fail
       refine WD ?_;rintro r w8 ⟨rfl,hd,hs⟩
       go_wp2_with fail
       go_meet
       case rel=>exact ⟨by rw [HZA.1];exact hd.kp0 Av,(HS.1.trans hs).add Av,Ac.at (fp:= []) Av (hs.at HB.1 qg) qg⟩
      |false=>
       rw [if_neg qg] at HZA
       go_wp2_with fail
       go_meet
       case rel=>exact ⟨by rw [HZA.1];exact HD.1.kp0 Av,HS.1.add Av,Ac.at (fp:= []) Av HB.1 qg⟩
     obtain ⟨hd,hs,hb⟩:=hcut;replace HD:=zh hd;replace HS:=zh hs;replace HB:=zh hb;clear hd hs hb HZA;generalize wc=wn at*
     obtain ⟨l_B,x0,x1,x2,x3,x4,x5,x6,x7,z0,z1,z2,z3,z4,z5,z6,z7⟩:=Rh HB.1;obtain ⟨g4,o4,hg4,s0⟩:=Rx HD.1.keep HP.1 hlt'
     cases hg4
     rw [hs'] at s0
     go_wp2_with fail
     refine (Ia s _).mono ?_;rintro r w' ⟨rfl,hw'⟩;rw [hw'];clear hw' w'
     cases hsp:Am s with
     |true=>
      rw [hsp,if_pos qg] at HE3;exact zte
     | false=>
      rw [hsp,Bool.false_or] at HE3
      go_wp2_with fail
      refine (Hh hK HD.1 s).mono ?_;rintro r w7 ⟨rfl,hk⟩;replace HD:=zh (HD.1.kp0 hk);replace HS:=zh (HS.1.add hk);replace HB:=zh (hk.at HB.1 qg);clear hk l_B x0 x1 x2 x3 x4 x5 x6 x7 z0 z1 z2 z3 z4 z5 z6 z7 s0;obtain ⟨l_B,x0,x1,x2,x3,x4,x5,x6,x7,z0,z1,z2,z3,z4,z5,z6,z7⟩:=Rh HB.1;generalize flook K.g s=fl at*
      rcases Nat.eq_zero_or_pos fl with hq|hq
      ·subst hq;rw [if_neg qg] at HE3
       go_wp2_with fail
       go_roundg f'
       case measure=>omega
       case rel=>exact ⟨k'+1,_,by first|rfl|(simp;done)|(simp;omega),by omega,by omega,HE3.1,HD.1.kp0 Av,HS.1.add Av,Ac.at (fp:= []) Av HB.1 qg⟩
      obtain ⟨m,rfl⟩:∃m,fl=m+1:=⟨fl -1,by omega⟩;rw [if_pos qg] at HE3;clear hq;exact zte
   have hke:k'=q.params.length:=by omega
   subst hke;obtain rfl:z=xq:=by have h:=HEZ.1;rw [List.drop_length,Sy] at h;exact h
   go_wp2_with fail
   go_roundg f
   case measure=>omega
   case rel=>exact ⟨k+1,z,by first|rfl|(simp;done)|(simp;omega),by omega,by omega,HE2.1,HD.1.kp0 Av,HS.1.add Av⟩
 have hke:k=K.g.funcs.length:=by omega
 subst hke;obtain rfl:y=xe:=by have h:=HEY.1;rw [List.drop_length,Ov] at h;exact h
 go_wp2_with fail
 refine Cq (v:= .tuple #[]) (fun W=>Ac [] wr W) Av (fun w1 hW=>by simp [results,Jo,go_sem]) rfl (fun w1 hW=>⟨rfl,HD.1.kp0 hW,HS.1.add hW⟩)
end Go.Proofs.YtkfillfkbhbbjaaGreatDoor
