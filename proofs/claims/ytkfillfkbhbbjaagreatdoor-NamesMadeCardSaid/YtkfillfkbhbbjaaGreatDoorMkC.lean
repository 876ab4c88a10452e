/- DLawC, DLawD, MkA, MkB, MkC. -/
import Derived.Test.YtkfillfkbhbbjaaGreatDoorDLawB
import Derived.Test.YtkfillfkbhbbjaaGreatDoorLevelsD
import Derived.Test.YtkfillfkbhbbjaaGreatDoorPLb
import Derived.Deep.QuietTactic
import Derived.Test.YtkfillfkbhbbjaaGreatDoorPLf
set_option maxRecDepth 100000
set_option maxHeartbeats 4000000
set_option linter.unusedSimpArgs false
set_option linter.unusedVariables false
set_option linter.unusedSimpArgs false
set_option linter.unusedVariables false
namespace Go.Proofs.YtkfillfkbhbbjaaGreatDoor
/-! ### heads -/
theorem Ol(st:NS)(re im:Nat){e:Int}(he:e≠0):Gn (Al st re im e)=(Gn st).or (some (e,re,im)):=(Xk st re im he).2
theorem Ss(f:Az)(s:ByteArray):∀(l:List ByteArray) (st:NS),Gn (Jv f s l st)=(Gn st).or (if Dn s l then some (29,f.re,f.im) else none)
 | [],st=>by simp [Jv,Dn,Fh]
 | t::l,st=>by
   rw [Jv,Ss f s l,Dn]
   by_cases h:same t s=true
   ·have e:same s t=true:=by rw [Lc] at h⊢;exact h.symm
    rw [if_pos h,if_pos e,Ol _ _ _ zi,Da]
    congr 1
   have e:¬same s t=true:=fun q=>h (by rw [Lc] at q⊢;exact q.symm)
   rw [if_neg h,if_neg e]
theorem UW(st:NS)(t:Ae):Gn (Df st t)=Gn st:=rfl
theorem Wt(g:Ah)(i:Nat)(f:Az):∀(l pre:List ByteArray) (st:NS),Gn (Dx g i f pre l st)=(Gn st).or (Sy g f pre l)
 | [],pre,st=>by rw [Dx,Sy,Fh]
 | s::l,pre,st=>by
   rw [Dx,Sy,Wt g i f l];rw [UW]
   by_cases h:(Am s||decide (flook g s>0))=true
   ·rw [if_pos h,if_pos h,Ol _ _ _ zi,Ss,Da,Da,Da]
   rw [if_neg h,if_neg h,Ss,Fh,Da]
theorem Wr(g:Ah):∀(l:List Az) (i:Nat) (st:NS),Gn (Er g i l st)=(Gn st).or (Ov g i l)
 | [],i,st=>by rw [Er,Ov,Fh]
 | f::l,i,st=>by
   rw [Er,Ov,Wr g l,Wt]
   by_cases h:flook g f.name≠i+1
   ·rw [if_pos h,if_pos h,Ol _ _ _ zi,Da,Da]
    congr 1
   rw [if_neg h,if_neg h]
   by_cases h2:Am f.name=true
   ·rw [if_pos h2,if_pos h2,Ol _ _ _ zi,Da,Da];rfl
   rw [if_neg h2,if_neg h2,Da];rfl
theorem Ws(g:Ah)(i:Nat)(f:Az):∀(l pre:List ByteArray) (st:NS),(∀t∈st.seen,t.1>0)→∀t∈(Dx g i f pre l st).seen,t.1>0
 | [],pre,st,h=>h
 | s::l,pre,st,h=>by
   rw [Dx];refine Ws g i f l _ _ fun t ht=> ?_
   rw [CF] at ht
   rcases ht with ht|rfl
   ·refine h t ?_;have h1:=Mg f s pre st
    split at ht
    ·rw [(Fb _ _ _ _).2.2.1,h1.2.2.1] at ht;exact ht
    rw [h1.2.2.1] at ht;exact ht
   exact Nat.succ_pos i
theorem Wp(g:Ah):∀(l:List Az) (i:Nat) (st:NS),(∀t∈st.seen,t.1>0)→∀t∈(Er g i l st).seen,t.1>0
 | [],i,st,h=>h
 | f::l,i,st,h=>by
   rw [Er];refine Wp g l _ _ (Ws g i f _ _ _ fun t ht=>h t ?_)
   split at ht
   ·rw [(Fb _ _ _ _).2.2.1] at ht;exact ht
   split at ht
   ·rw [(Fb _ _ _ _).2.2.1] at ht;exact ht
   exact ht
/-! ### the program's events -/
mutual
theorem Xc(g:Ah)(fn:Nat)(kd lo:Int):∀(n:Af) (lo:Int),Dg g fn kd lo n=none→(∀e∈Xd g fn n,BR e)∧(Xd g fn n).length+1≤2*Bo n
 | .mk k nm x kids re im,lo,h=>by
   rw [Dg] at h;obtain ⟨h1,h2⟩:=Option.or_eq_none' h;rw [Xd,Bo]
   by_cases h19:k=19
   ·subst h19;rw [if_pos rfl]
    have hf:flook g nm>0:=by
     have h1:(if flook g nm=0 then some (28,re,im) else if (Bk g (flook g nm)).length<kids.length then some (31,re,im) else none:Option Ic)=none:=h1
     split at h1
     ·cases h1
     omega
    have:=PU g fn kd (flook g nm) hf kids (Bk g (flook g nm)) _ _ _ h2;exact ⟨this.1,by omega⟩
   rw [if_neg h19]
   by_cases h20:k=20
   ·rw [if_pos h20]
    split
    ·rename_i hl
     cases kids with
     |nil=>simp [Xz] at hl
     |cons a l=>
      cases l with
      |nil=>exact ⟨fun e he=>by simp [LI] at he;subst he;trivial,by have:=Ci a;simp [LI,Ar];omega⟩
      |cons b l=>simp [Xz] at hl
    have:=PW g fn kd (Gi nm) kids 0 _ _ _ h2;exact ⟨this.1,by omega⟩
   rw [if_neg h20];have:=GE g fn kd kids _ _ _ h2;refine ⟨fun e he=> ?_, ?_⟩
   ·rcases List.mem_append.1 he with he|he
    ·unfold AM at he
     split at he
     ·simp at he;subst he;trivial
     split at he
     ·simp at he;subst he;trivial
     simp at he
    exact this.1 e he
   rw [List.length_append];have:(AM g fn k nm re im).length≤1:=by unfold AM;split<;>first|(simp;done)|(split<;>simp)
   omega
theorem GE(g:Ah)(fn:Nat)(kd:Int):∀(l:List Af) (lo:Int) (lp:Bool) (i:Nat),Cg g fn kd lo lp i l=none→(∀e∈Nq g fn l,BR e)∧(Nq g fn l).length≤2*Ar l
 | [],lo,lp,i,h=>⟨fun e he=>by simp [Nq] at he,by simp [Nq,Ar]⟩
 | k::l,lo,lp,i,h=>by
   rw [Cg] at h;obtain ⟨h1,h2⟩:=Option.or_eq_none' h;obtain ⟨-,h1⟩:=Option.or_eq_none' h1;have a:=Xc g fn kd lo k lo h1;have b:=GE g fn kd l lo lp (i+1) h2;rw [Nq,Ar];exact ⟨fun e he=>(List.mem_append.1 he).elim (a.1 e) (b.1 e),by rw [List.length_append];omega⟩
theorem PU(g:Ah)(fn:Nat)(kd:Int)(f:Nat)(hf:f>0):∀(l:List Af) (ps:List ByteArray) (lo:Int) (lp:Bool) (i:Nat),Cg g fn kd lo lp i l=none→(∀e∈Zl g fn f ps l,BR e)∧(Zl g fn f ps l).length≤2*Ar l
 | [],ps,lo,lp,i,h=>⟨fun e he=>by cases ps<;>simp [Zl] at he,by cases ps<;>simp [Zl,Ar]⟩
 |k::l,[],lo,lp,i,h=>⟨fun e he=>by simp [Zl] at he,by simp [Zl]⟩
 | k ::l,p::ps,lo,lp,i,h=>by
   rw [Cg] at h;obtain ⟨h1,h2⟩:=Option.or_eq_none' h;obtain ⟨-,h1⟩:=Option.or_eq_none' h1;have a:=Xc g fn kd lo k lo h1;have b:=PU g fn kd f hf l ps lo lp (i+1) h2;have hp:=Ci k;rw [Zl,Ar];refine ⟨fun e he=> ?_, ?_⟩
   ·rcases List.mem_append.1 he with he|he
    ·split at he
     ·simp at he;subst he;exact hf
     rcases List.mem_cons.1 he with rfl|he
     ·exact hf
     exact a.1 e he
    exact b.1 e he
   rw [List.length_append]
   split
   ·simp;omega
   rw [List.length_cons];omega
theorem PW(g:Ah)(fn:Nat)(kd:Int)(arr:Int):∀(l:List Af) (j:Nat) (lo:Int) (lp:Bool) (i:Nat),Cg g fn kd lo lp i l=none→(∀e∈Xt g fn arr j l,BR e)∧(Xt g fn arr j l).length≤2*Ar l
 | [],j,lo,lp,i,h=>⟨fun e he=>by simp [Xt] at he,by simp [Xt,Ar]⟩
 | k ::l,j,lo,lp,i,h=>by
   rw [Cg] at h;obtain ⟨h1,h2⟩:=Option.or_eq_none' h;obtain ⟨-,h1⟩:=Option.or_eq_none' h1;have a:=Xc g fn kd lo k lo h1;have b:=PW g fn kd arr l (j+1) lo lp (i+1) h2;have hp:=Ci k;rw [Xt,Ar];refine ⟨fun e he=> ?_, ?_⟩
   ·rcases List.mem_append.1 he with he|he
    ·split at he
     ·split at he
      ·simp at he;subst he;trivial
      rcases List.mem_cons.1 he with rfl|he
      ·trivial
      exact a.1 e he
     exact a.1 e he
    exact b.1 e he
   rw [List.length_append]
   split
   ·split
    ·simp;omega
    rw [List.length_cons];omega
   omega
end
theorem PT(g:Ah):∀l:List Cy,Mi g l=none→(∀e∈LU g l,BR e)∧(LU g l).length≤2*Fs l
 | [],h=>⟨fun e he=>by simp [LU] at he,by simp [LU]⟩
 | r::l,h=>by
   rw [Mi] at h;obtain ⟨h1,h2⟩:=Option.or_eq_none' h;obtain ⟨h1,h3⟩:=Option.or_eq_none' h1;have a:=GE g 0 r.kind r.pats _ _ _ h1;have b:=Xc g 0 r.kind 0 r.body 0 h3;have c:=PT g l h2;rw [LU,Fs];refine ⟨fun e he=> ?_,by rw [List.length_append,List.length_append];omega⟩
   rcases List.mem_append.1 he with he|he
   ·exact (List.mem_append.1 he).elim (a.1 e) (b.1 e)
   exact c.1 e he
theorem JI(g:Ah):∀(l:List Az) (i:Nat),Ip g i l=none→(∀e∈Ou g i l,BR e)∧(Ou g i l).length≤2*In l+Ij l
 | [],i,h=>⟨fun e he=>by simp [Ou] at he,by simp [Ou]⟩
 | f::l,i,h=>by
   rw [Ip] at h;obtain ⟨h1,h2⟩:=Option.or_eq_none' h;have b:=Xc g (i+1) 0 0 f.body 0 h1;have c:=JI g l (i+1) h2;rw [Ou,In,Ij];refine ⟨fun e he=> ?_,by rw [List.length_append,List.length_append,List.length_map];omega⟩
   rcases List.mem_append.1 he with he|he
   ·rcases List.mem_append.1 he with he|he
    ·obtain ⟨s,-,rfl⟩:=List.mem_map.1 he;exact Nat.succ_pos i
    exact b.1 e he
   exact c.1 e he
end Go.Proofs.YtkfillfkbhbbjaaGreatDoor
set_option linter.unusedSimpArgs false
set_option linter.unusedVariables false
namespace Go.Proofs.YtkfillfkbhbbjaaGreatDoor
theorem Ib(m:Ew)(r:Ae):∀a b:List Kf,Cc m r (a++b)=if Cc m r a=0 then Cc m r b else Cc m r a
 | [],b=>by simp [Cc]
 | u::a,b=>by
   rw [List.cons_append,Cc,Cc]
   cases Hc m r u with
   |true=>simp only [if_true];cases u.array<;>simp
   |false=>simp only [Bool.false_eq_true,if_false];exact Ib m r a b
theorem Xa{m:Ew}{r:Ae}:∀{l:List Kf} {u:Kf},u∈l→Hc m r u=true→Cc m r l=1∨Cc m r l=2
 | x::l,u,hu,h=>by
   rw [Cc]
   cases hx:Hc m r x with
   |true=>simp only [if_true];cases x.array<;>simp
   |false=>
    simp only [Bool.false_eq_true,if_false]
    rcases List.mem_cons.1 hu with rfl|hu
    ·rw [h] at hx;cases hx
    exact Xa hu h
theorem Jr{s:ByteArray}:∀{l:List ByteArray},Dn s l=true↔s∈l
 | []=>by simp [Dn]
 | x::l=>by
   rw [Dn,List.mem_cons,←Jr]
   by_cases h:s=x
   ·rw [if_pos (Lc.2 h)];simp [h]
   rw [if_neg (fun k=>h (Lc.1 k))];simp [h]
theorem Pj(m:Ew)(r:Ae):∀l:List ByteArray,Cc m r (l.map fun s=>⟨0,0,(0,s),false,Gs,false,false⟩)=if ∃s∈l,rt m (0,s)=r then 1 else 0
 | []=>by simp [Cc]
 | s::l=>by
   rw [List.map_cons,Cc,Pj m r l];have hu:Hc m r ⟨0,0,(0,s),false,Gs,false,false⟩=decide (rt m (0,s)=r):=by simp [Hc]
   rw [hu]
   by_cases h:rt m (0,s)=r
   ·simp [h]
   simp [h]
theorem Tk(m:Ew)(r:Ae):∀l:List Ae,Dq m r l=true↔∃t∈l,Qh t=true∧rt m t=r
 | []=>by simp [Dq]
 | t::l=>by
   rw [Dq,Bool.or_eq_true,Tk m r l]
   constructor
   ·rintro (h|⟨x,h1,h2⟩)
    ·rw [Bool.and_eq_true,decide_eq_true_eq] at h;exact ⟨t,List.mem_cons_self ..,h.1,h.2⟩
    exact ⟨x,List.mem_cons_of_mem _ h1,h2⟩
   rintro ⟨x,h1,h2,h3⟩
   rcases List.mem_cons.1 h1 with rfl|h1
   ·exact .inl (by rw [Bool.and_eq_true,decide_eq_true_eq];exact ⟨h2,h3⟩)
   exact .inr ⟨x,h1,h2,h3⟩
def kv(m:NS)(r:Ae):Nat:=Cc m.same r (Yk++m.uses)
theorem Gu.kv_eq{m:NS}{d:DS}(h:Gu m d){t:Ae}(ht:t.1=0→t∈m.seen):kv m (rt m.same t)=Mq m (rt m.same t):=by
 unfold kv Mq;rw [Ib,Yk,Pj]
 have hiff:(∃s∈specials,rt m.same (0,s)=rt m.same t)↔Dq m.same (rt m.same t) m.seen=true:=by
  rw [Tk]
  constructor
  ·rintro ⟨s,h1,h2⟩;have hsp:Am s=true:=Jr.2 h1
   by_cases hs:((0,s):Ae)∈m.seen
   ·exact ⟨_,hs,by simp [Qh,hsp],h2⟩
   have h0:rt m.same (0,s)=(0,s):=by
    have hno:Cf ((0,s):Ae) m.same=none:=by
     cases ha:Cf ((0,s):Ae) m.same with
     |none=>rfl
     |some b=>exact absurd ((h.link _ _ ha).2.2 rfl) hs
    have:=h.wf.root (0,s);rw [Dw,hno] at this
    simpa using this.symm
   rw [h0] at h2;have h3:=h.rt0 (t:=t) (by rw [←h2]);rw [h3] at h2;exact absurd (h2▸ht (by rw [←h2])) hs
  rintro ⟨⟨n,s⟩,h1,h2,h3⟩;simp only [Qh,Bool.and_eq_true,decide_eq_true_eq] at h2;obtain ⟨rfl,h2⟩:=h2;exact ⟨s,Jr.1 h2,h3⟩
 by_cases hc:Dq m.same (rt m.same t) m.seen=true
 ·rw [if_pos (hiff.2 hc),if_pos hc];rfl
 rw [if_neg (fun q=>hc (hiff.1 q)),if_neg hc];rfl
theorem IY(m:NS){s:ByteArray}(h:Am s=true):kv m (rt m.same (0,s))=1:=by
 unfold kv;have:∃s'∈specials,rt m.same (0,s')=rt m.same (0,s):=⟨s,Jr.1 h,rfl⟩;rw [Ib,Yk,Pj,if_pos this];rfl
def Uf(m:NS)(d:DS)(k:List Int):Prop:=∀(j:Nat) (t:Ae),(keys d)[j]? =some t→k[j]? =some (kv m t:Int)
theorem Gu.kinds'{m:NS}{d:DS}(h:Gu m d)(hs:m.same.length<900000):∀(l:List Gq) (i:Nat) (k:List Int),(∀u∈l,0≤u.how∧u.how≤3∧(u.how≠3→u.thing.toNat<d.things.length))→k.length=d.things.length→
  ∃k',Fq d l k=some k'∧∀(j:Nat) (t:Ae) (v:Int),(keys d)[j]? =some t→k[j]? =some v→k'[j]? =some (if v=0 then (Cc m.same t (Lm (keys d) (Bb d) i l):Int) else v)
 | [],i,k,_,hk=>⟨k,rfl,fun j t v hj hv=>by rw [hv,Lm,Cc];split<;>simp_all⟩
 | u ::l,i,k,hl,hk=>by
   have hl':=fun x hx=>hl x (List.mem_cons_of_mem _ hx)
   obtain ⟨u0,u3,ut⟩:=hl u (List.mem_cons_self ..);rw [Fq]
   by_cases h12:u.how=1∨u.how=2
   ·rw [if_pos h12];have hlt:=ut jh;obtain ⟨x,hx⟩:∃x,(keys d)[u.thing.toNat]? =some x:=⟨_,List.getElem?_eq_getElem (by rw [Nm];exact hlt)⟩;obtain ⟨r,hr1,hr2⟩:=h.root hs hx;have hrl:=Sr hr2;obtain ⟨w,hw⟩:∃w,k[r]? =some w:=⟨_,List.getElem?_eq_getElem jh⟩;rw [hr1,Option.bind_some,hw,Option.bind_some];obtain ⟨k',e1,e2⟩:=Gu.kinds' h hs l (i+1) (if w=0 then k.set r u.how else k) hl' (by split<;>simp [hk]);refine ⟨k',e1,fun j t v hj hv=> ?_⟩
    have ef:Hk (keys d) (Bb d i) u= [⟨u.re,u.im,x,decide (u.how=2),Gs,false,false⟩]:=by
     unfold Hk;rw [if_neg jh,if_pos h12,hx];rfl
    rw [Lm,ef,List.singleton_append,Cc];have hu:Hc m.same t ⟨u.re,u.im,x,decide (u.how=2),Gs,false,false⟩=decide (rt m.same x=t):=by simp [Hc]
    rw [hu]
    by_cases hrj:r=j
    ·subst hrj;have et:rt m.same x=t:=by rw [hr2] at hj;simpa using hj
     rw [hv] at hw;cases hw;rw [decide_eq_true et,if_pos rfl];have hkv:(((if decide (u.how=2)=true then 2 else 1:Nat)):Int)=u.how:=by rcases h12 with q|q<;>simp [q]
     by_cases hw0:w=0
     ·rw [if_pos hw0] at e2⊢;rw [e2 r t u.how hj (by rw [List.getElem?_set_self jh]),if_neg jh,hkv]
     rw [if_neg hw0] at e2⊢;rw [e2 r t w hj hv,if_neg hw0]
    have et:rt m.same x≠t:=fun e=>hrj (BA h.nodup (by rw [hr2,e]) hj)
    rw [decide_eq_false et];refine (e2 j t v hj ?_).trans qg
    split
    ·rw [List.getElem?_set_ne hrj];exact hv
    exact hv
   rw [if_neg h12];obtain ⟨k',e1,e2⟩:=Gu.kinds' h hs l (i+1) k hl' hk;refine ⟨k',e1,fun j t v hj hv=> ?_⟩;rw [e2 j t v hj hv,Lm,Ib]
   have:Cc m.same t (Hk (keys d) (Bb d i) u)=0:=by
    unfold Hk
    split
    ·simp [Cc,Hc]
    (try rw [if_neg h12])
    split
    ·simp [Cc,Hc]
    rfl
   rw [this,if_pos rfl]
theorem Gu.kinds{m:NS}{d:DS}(h:Gu m d)(hs:m.same.length<900000):∃k,Fq d d.uses (List.replicate d.things.length 0)=some k∧Uf m d k:=by
 obtain ⟨k,e1,e2⟩:=h.kinds' hs d.uses 0 (List.replicate d.things.length 0) h.idx qg;refine ⟨k,e1,fun j t hj=> ?_⟩;rw [e2 j t 0 hj (by rw [List.getElem?_replicate,if_pos (Sr hj)]),if_pos rfl,h.eff];rfl
theorem Gu.kindAt{m:NS}{d:DS}(h:Gu m d)(hs:m.same.length<900000){k:List Int}(hk:Uf m d k){i:Nat}{t:Ae}(hi:(keys d)[i]? =some t):∃r,Jb d i=some r∧k[r]? =some (kv m (rt m.same t):Int):=by
 obtain ⟨r,h1,h2⟩:=h.root hs hi;exact ⟨r,h1,hk _ _ h2⟩
def BK(m:NS)(u:Kf):Bool:=if u.bad then true else if u.kid then kv m (rt m.same u.param)==2 else (kv m (rt m.same u.of)==2) !=u.array
def Gy(m:NS):List Kf→Option Ic
 | []=>none
 |u::l=>if BK m u=true then some (30,u.re,u.im) else Gy m l
theorem La(m:NS):∀a b:List Kf,Gy m (a++b)=(Gy m a).or (Gy m b)
 | [],b=>rfl
 | u::a,b=>by
   rw [List.cons_append,Gy,Gy]
   split
   ·rfl
   exact La m a b
theorem Gu.bad'{m:NS}{d:DS}(h:Gu m d)(hs:m.same.length<900000){k:List Int}(hk:Uf m d k):∀(l:List Gq) (i:Nat),(∀u∈l,0≤u.how∧u.how≤3∧(u.how≠3→u.thing.toNat<d.things.length))→(∀v∈Lm (keys d) (Bb d) i l,v∈Yk++m.uses)→
  Cj d k i l=some (Gy m (Lm (keys d) (Bb d) i l))
 | [],i,_,_=>rfl
 | u ::l,i,hl,hm=>by
   have hl':=fun x hx=>hl x (List.mem_cons_of_mem _ hx)
   obtain ⟨u0,u3,ut⟩:=hl u (List.mem_cons_self ..);rw [Lm] at hm⊢;have ih:=Gu.bad' h hs hk l (i+1) hl' (fun v hv=>hm v (List.mem_append_right _ hv));have hmU:=fun v hv=>hm v (List.mem_append_left _ hv)
   rw [Cj,La,ih]
   by_cases h3:u.how=3
   ·have eb:Nt d k i u=some true:=by rw [Nt,if_pos h3]
    rw [eb];unfold Hk;rw [if_pos h3];rfl
   have hlt:=ut h3;obtain ⟨x,hx⟩:∃x,(keys d)[u.thing.toNat]? =some x:=⟨_,List.getElem?_eq_getElem (by rw [Nm];exact hlt)⟩;obtain ⟨r,hr1,hr2⟩:=h.kindAt hs hk hx
   by_cases h12:u.how=1∨u.how=2
   ·have ef:Hk (keys d) (Bb d i) u= [⟨u.re,u.im,x,decide (u.how=2),Gs,false,false⟩]:=by
     unfold Hk;rw [if_neg jh,if_pos h12,hx];rfl
    rw [ef] at hmU⊢;have h12k:=Xa (m:=m.same) (r:=rt m.same x) (hmU _ (List.mem_singleton_self _)) (by simp [Hc])
    have eb:Nt d k i u=some (BK m ⟨u.re,u.im,x,decide (u.how=2),Gs,false,false⟩):=by
     rw [Nt,if_neg h3,if_pos jh,hr1,Option.bind_some,hr2,Option.map_some];unfold BK;simp only [Bool.false_eq_true,if_false,Option.some.injEq]
     change kv m (rt m.same x)=1∨kv m (rt m.same x)=2 at h12k
     rcases h12k with q|q<;>rcases h12 with p|p<;>rw [q,p]<;>decide
    rw [eb,Option.bind_some,Gy,Gy]
    split<;>rfl
   have h0:u.how=0:=by omega
   by_cases hh:Bb d i=true
   ·have ef:Hk (keys d) (Bb d i) u= [⟨u.re,u.im,Gs,false,x,true,false⟩]:=by
     unfold Hk;rw [if_neg h3,if_neg h12,if_pos hh,hx];rfl
    rw [ef]
    have eb:Nt d k i u=some (BK m ⟨u.re,u.im,Gs,false,x,true,false⟩):=by
     rw [Nt,if_neg h3,if_neg jh,if_pos hh,hr1,Option.bind_some,hr2,Option.map_some];unfold BK;simp only [Bool.false_eq_true,if_false,if_true,Option.some.injEq];rw [Bool.eq_iff_iff,beq_iff_eq,beq_iff_eq];omega
    rw [eb,Option.bind_some,Gy,Gy]
    split<;>rfl
   have ef:Hk (keys d) (Bb d i) u= []:=by
    unfold Hk;rw [if_neg h3,if_neg h12,if_neg hh]
   have eb:Nt d k i u=some false:=by rw [Nt,if_neg h3,if_neg jh,if_neg hh]
   rw [ef,eb];rfl
theorem Tv(m:NS):∀l:List ByteArray,(∀s∈l,Am s=true)→Gy m (l.map fun s=>⟨0,0,(0,s),false,Gs,false,false⟩)=none
 | [],_=>rfl
 | s::l,h=>by
   rw [List.map_cons,Gy]
   have:BK m ⟨0,0,(0,s),false,Gs,false,false⟩=false:=by
    unfold BK;simp only [Bool.false_eq_true,if_false];rw [IY m (h s (List.mem_cons_self ..))];rfl
   rw [this,if_neg zi];exact Tv m l fun x hx=>h x (List.mem_cons_of_mem _ hx)
theorem Gu.firstV_eq{m:NS}{d:DS}(h:Gu m d):∀l:List Kf,(∀u∈l,u∈m.uses)→Gy m l=Cx m l
 | [],_=>rfl
 | u ::l,hl=>by
   have hu:=hl u (List.mem_cons_self ..)
   have:BK m u=Un m u:=by
    unfold BK Un
    cases hb:u.bad with
    |true=>rfl
    |false=>
     cases hk:u.kid with
     |true=>simp only [Bool.false_eq_true,if_false,if_true];rw [h.kv_eq fun q=>absurd q (by have:=h.kidp u hu hk;omega)]
     |false=>simp only [Bool.false_eq_true,if_false];rw [h.kv_eq fun q=>h.useen u hu hk hb q]
   rw [Gy,Cx,this,Gu.firstV_eq h l fun x hx=>hl x (List.mem_cons_of_mem _ hx)]
theorem Gu.bad{m:NS}{d:DS}(h:Gu m d)(hs:m.same.length<900000){k:List Int}(hk:Uf m d k):Cj d k 0 d.uses=some (Cx m m.uses):=by
 rw [h.bad' hs hk d.uses 0 h.idx (fun v hv=>by rw [h.eff] at hv;exact hv),h.eff,La,Yk,Tv m specials (fun s hs=>Jr.2 hs),h.firstV_eq m.uses (fun u hu=>hu)];rfl
/-! ### what is told -/
theorem Gu.names{m:NS}{d:DS}(h:Gu m d)(hs:m.same.length<900000){k:List Int}(hk:Uf m d k):∀(l:List Ea) (i:Nat) (sc ar:List ByteArray),(∀j x,l[j]? =some x→d.things[i+j]? =some x)→
  Gk d k i l sc ar=some (((l.map (·.t)).filter fun t=>Dt t&&Ft m t==false).foldl (fun o t=>Ep t.2 o) sc,((l.map (·.t)).filter fun t=>Dt t&&Ft m t==true).foldl (fun o t=>Ep t.2 o) ar)
 | [],i,sc,ar,_=>rfl
 | x::l,i,sc,ar,hl=>by
   have hl':∀j y,l[j]? =some y→d.things[i+1+j]? =some y:=fun j y hj=>by rw [Nat.add_right_comm];exact hl (j+1) y (by simpa using hj)
   have hx:d.things[i]? =some x:=hl 0 x rfl;rw [Gk,List.map_cons,List.filter_cons,List.filter_cons]
   by_cases h0:x.t.1>0
   ·have:Dt x.t=false:=by simp [Dt,h0]
    rw [if_pos h0,Gu.names h hs hk l (i+1) sc ar hl',this];rfl
   rw [if_neg h0];obtain ⟨r,h1,h2⟩:=h.kindAt hs hk (Mc.2 ⟨x,hx,rfl⟩);rw [h1,Option.bind_some,h2,Option.bind_some];have hx0:x.t.1=0:=by omega
   have hxe:x.t=(0,x.t.2):=Prod.ext hx0 rfl
   by_cases hsp:Am x.t.2=true
   ·have hg:Dt x.t=false:=by simp [Dt,hsp]
    have h1:kv m (rt m.same x.t)=1:=by rw [hxe];exact IY m hsp
    rw [hg,h1,if_neg zi,if_pos hsp,Gu.names h hs hk l (i+1) _ _ hl'];rfl
   have hg:Dt x.t=true:=by simp [Dt,h0,hsp]
   have hseen:x.t∈m.seen:=by
    have:=(h.seen x.t hx0).1 (List.mem_of_getElem? (Mc.2 ⟨x,hx,rfl⟩));exact this.elim id fun q=>absurd q hsp
   have he:Ft m x.t=(kv m (rt m.same x.t)==2):=by unfold Ft;rw [h.kv_eq fun _=>hseen]
   rw [hg,he,Bool.true_and,Bool.true_and]
   by_cases hk2:kv m (rt m.same x.t)=2
   ·rw [hk2,if_pos zi,Gu.names h hs hk l (i+1) _ _ hl'];rfl
   have hb:(kv m (rt m.same x.t)==2)=false:=beq_false_of_ne hk2;rw [if_neg jh,hb,if_neg hsp,Gu.names h hs hk l (i+1) _ _ hl'];rfl
theorem Zh:∀(l:List Ae) (o:List ByteArray),l.foldl (fun o t=>Ep t.2 o) (Cr o)=Cr ((l.map (·.2)).reverse++o)
 | [],o=>rfl
 | t::l,o=>by
   rw [List.foldl_cons,show Ep t.2 (Cr o)=Cr (t.2::o) from rfl,Zh l (t.2::o),List.map_cons,List.reverse_cons,List.append_assoc];rfl
theorem Gu.told{m:NS}{d:DS}(h:Gu m d)(hs:m.same.length<900000){k:List Int}(hk:Uf m d k)(a:Bool):((keys d).filter fun t=>Dt t&&Ft m t==a).foldl (fun o t=>Ep t.2 o) []=Cr ((m.seen.filter fun t=>Dt t&&Ft m t==a).map (·.2)):=by
 have:=Zh ((keys d).filter fun t=>Dt t&&Ft m t==a) [];rw [show Cr []= [] from rfl] at this;rw [this,List.append_nil];refine Vf ((List.reverse_perm _).trans (List.Perm.map _ ?_));refine (List.perm_ext_iff_of_nodup (h.nodup.filter _) (h.nd.filter _)).2 fun t=> ?_
 rw [List.mem_filter,List.mem_filter]
 have hg:Dt t=true→(t∈keys d↔t∈m.seen):=fun hg=>by
  simp only [Dt,Bool.not_eq_true',Bool.or_eq_false_iff,decide_eq_false_iff_not] at hg;rw [h.seen t jh,hg.2];simp
 constructor
 ·rintro ⟨h1,h2⟩;exact ⟨(hg (by rw [Bool.and_eq_true] at h2;exact h2.1)).1 h1,h2⟩
 rintro ⟨h1,h2⟩;exact ⟨(hg (by rw [Bool.and_eq_true] at h2;exact h2.1)).2 h1,h2⟩
theorem Gu.pars{m:NS}{d:DS}(h:Gu m d)(hs:m.same.length<900000){k:List Int}(hk:Uf m d k)(i:Nat):∀l:List ByteArray,(∀s∈l,((i+1,s):Ae)∈keys d)→Mm d k i l=some (IM m i l)
 | [],_=>rfl
 | s::l,hl=>by
   rw [Mm,Gu.pars h hs hk i l fun x hx=>hl x (List.mem_cons_of_mem _ hx)];have hin:=hl s (List.mem_cons_self ..)
   cases hf:Fi (i+1,s) d.things 0 with
   |none=>exact absurd hin (Pz hf)
   |some j=>
    obtain ⟨-,x,h2,h3⟩:=Py hf;obtain ⟨r,g1,g2⟩:=h.kindAt hs hk (Mc.2 ⟨x,h2,h3⟩);rw [Option.bind_some,show j=j -0 from rfl,g1,Option.bind_some,g2,Option.bind_some,Option.map_some];show some (_::_)=some (Ft m (i+1,s)::_);rw [Ft,←h.kv_eq (t:=(i+1,s)) fun q=>by cases q]
    congr 2
    rw [Bool.eq_iff_iff,beq_iff_eq,beq_iff_eq];omega
theorem Gu.parsA{m:NS}{d:DS}(h:Gu m d)(hs:m.same.length<900000){k:List Int}(hk:Uf m d k):∀(l:List Az) (i:Nat),(∀j f,l[j]? =some f→∀s∈f.params,((i+j+1,s):Ae)∈keys d)→Ka d k i l=some (Tl m i l)
 | [],i,_=>rfl
 | f::l,i,hl=>by
   rw [Ka,h.pars hs hk i f.params (hl 0 f rfl),Option.bind_some,Gu.parsA h hs hk l (i+1) fun j f hj=>by rw [show i+1+j=i+(j+1) from by omega];exact hl (j+1) f (by simpa using hj)];rfl
theorem QB{d d':DS}{e:Ev}(h:It d e=some d'):(∀t∈keys d,t∈keys d')∧(∀t,e= .reg t→t∈keys d'):=by
 have hof:∀{a b:DS} {t:Ae} {i:Nat},RH a b t i→(∀u∈keys a,u∈keys b)∧t∈keys b:=fun o=>⟨fun u hu=>by
  rcases o.ks with e|e
  ·rw [e];exact hu
  rw [e];exact List.mem_append_left _ hu,List.mem_of_getElem? o.key⟩
 have hus:∀{a b:DS} {u:Gq},Jx a u=some b→keys b=keys a:=fun {a b u} h=>by
  unfold Jx at h;split at h
  ·cases h;rfl
  cases h
 cases e with
 |see t re im=>
  exact jie
 |use t arr re im=>
  exact jie
 |kid t re im=>
  exact jie
 |bad re im=>rw [hus h];exact ⟨fun _ h=>h,fun _ q=>by cases q⟩
 | link a p re im=>
  simp only [It,Option.bind_eq_some_iff,Option.some.injEq] at h;obtain ⟨⟨i,d1⟩,h1,⟨j,d2⟩,h2,d3,h3,x,-,y,-,rfl⟩:=h
  have ek:keys (Ir d3 x y)=keys d3:=by
   simp only [keys,Ir];apply List.ext_getElem?;intro i;rw [List.getElem?_map,List.getElem?_map,List.getElem?_modify]
   cases d3.things[i]? with
   |none=>rfl
   |some z=>simp;split<;>rfl
  rw [ek,hus h3];exact ⟨fun t ht=>(hof (Gb h2)).1 _ ((hof (Gb h1)).1 _ ht),fun _ q=>by cases q⟩
 |reg t=>
  simp only [It,Option.map_eq_some_iff] at h;obtain ⟨⟨i,d1⟩,h1,rfl⟩:=h;exact ⟨(hof (Gb h1)).1,fun _ q=>by cases q;exact (hof (Gb h1)).2⟩
theorem Zs:∀{l:List Ev} {d d':DS},Ee l d=some d'→(∀t∈keys d,t∈keys d')∧(∀t,Ev.reg t∈l→t∈keys d')
 | [],d,d',h=>by cases h;exact ⟨fun _ h=>h,fun _ h=>by simp at h⟩
 | e::l,d,d',h=>by
   rw [Do,Option.bind_eq_some_iff] at h;obtain ⟨d1,h1,h2⟩:=h;have a:=QB h1;have b:=Zs h2;refine ⟨fun t ht=>b.1 _ (a.1 _ ht),fun t ht=> ?_⟩
   rcases List.mem_cons.1 ht with q|q
   ·exact b.1 _ (a.2 t q.symm)
   exact b.2 t q
theorem II(g:Ah):∀(l:List Az) (i j:Nat) (f:Az) (s:ByteArray),l[j]? =some f→s∈f.params→Ev.reg (i+j+1,s)∈Ou g i l
 | x::l,i,0,f,s,hj,hs=>by
   simp at hj;subst hj;rw [Ou];exact List.mem_append_left _ (List.mem_append_left _ (List.mem_map.2 ⟨s,hs,rfl⟩))
 | x::l,i,j+1,f,s,hj,hs=>by
   rw [Ou];have:=II g l (i+1) j f s (by simpa using hj) hs;rw [show i+1+j=i+(j+1) from by omega] at this;exact List.mem_append_right _ this
def ZC:DS:=⟨[⟨(0,bs [78,82]),0⟩,⟨(0,bs [78,70]),1⟩,⟨(0,bs [70,83]),2⟩,⟨(0,bs [79,70,83]),3⟩,⟨(0,bs [79,82,83]),4⟩,⟨(0,bs [82,83]),5⟩,⟨(0,bs [83,85,66,83,69,80]),6⟩,⟨(0,bs [67,79,78,86,70,77,84]),7⟩,⟨(0,bs [79,70,77,84]),8⟩,⟨(0,bs [82,83,84,65,82,84]),9⟩,⟨(0,bs [82,76,69,78,71,84,72]),10⟩,⟨(0,bs [78,79,87]),11⟩,⟨(0,bs [71,65,80,83]),12⟩],
 [⟨0,1,0,0⟩,⟨1,1,0,0⟩,⟨2,1,0,0⟩,⟨3,1,0,0⟩,⟨4,1,0,0⟩,⟨5,1,0,0⟩,⟨6,1,0,0⟩,⟨7,1,0,0⟩,⟨8,1,0,0⟩,⟨9,1,0,0⟩,⟨10,1,0,0⟩,⟨11,1,0,0⟩,⟨12,1,0,0⟩],[]⟩
theorem SU:Ee YN MT=some ZC:=by rfl
theorem VZ:keys ZC=specials.map fun s=>(0,s):=by rfl
theorem WX:specials.Nodup:=by decide
theorem KR{m:NS}(h1:m.uses= [])(h2:m.same= [])(h3:∀t∈m.seen,t.1>0)(h4:m.seen.Nodup):Gu m ZC:=by
 refine ⟨by rw [h2];exact .nil, ?_, ?_,by rw [h2];exact fun _ _ h=>(nomatch h),fun t ht=> ?_,fun c hc=>(nomatch hc),by decide, ?_,by rw [h1];exact fun _ h=>(nomatch h),by rw [h1];exact fun _ h=>(nomatch h),h4⟩
 ·rw [VZ];exact List.Pairwise.map _ (fun a b h q=>h (by simpa using q)) WX
 ·intro i x hx;rw [h2]
  have:∀i:Fin 13,∀x,ZC.things[i.1]? =some x→(keys ZC)[x.like]? =some ((Cf x.t []).getD x.t):=by
   intro i x hx;have e:∀i:Fin 13,(ZC.things[i.1]?).map (fun x=>decide (x.like=i.1))=some true:=by decide
   have e:=e i;rw [hx] at e;simp at e;rw [e];exact Mc.2 ⟨x,hx,rfl⟩
  have hi:i<13:=(List.getElem?_eq_some_iff.1 hx).1;exact this ⟨i,hi⟩ x hx
 ·rw [VZ]
  constructor
  ·intro h;obtain ⟨s,hs,rfl⟩:=List.mem_map.1 h;exact .inr (Jr.2 hs)
  rintro (h|h)
  ·exact absurd ht (by have:=h3 t h;omega)
  exact List.mem_map.2 ⟨t.2,Jr.1 h,by rw [←ht]⟩
 rw [h1];rfl
theorem Nr{g:Ah}(h:WH g):Ns g=some (Ek g):=by
 have hd1:=Kp g g.funcs 0 IR
 change (hd g).uses= []∧(hd g).same= []∧(hd g).seen.length≤0+Ij g.funcs∧(hd g).fn=0 at hd1
 have hf:Gn (hd g)=Ov g 0 g.funcs:=by rw [hd,Wr];rfl
 unfold Ns Ek;rw [hf]
 cases h0:Ov g 0 g.funcs with
 |some x=>rfl
 | none=>
  simp only
  cases h1:Qw g with
  |some x=>rfl
  | none=>
   simp only;obtain ⟨st,hst⟩:=XO h h1;obtain ⟨hr,hfu⟩:=Option.or_eq_none' h1;have a:=PT g g.rules hr;have b:=JI g g.funcs 0 hfu;have hlen:(MS g).length≤400000:=by have:=h.size;rw [MS,List.length_append];omega
   have hok:∀e∈MS g,BR e:=fun e he=>(List.mem_append.1 he).elim (a.1 e) (b.1 e)
   have hs0:=KR hd1.1 hd1.2.1 (Wp g g.funcs 0 IR (fun _ h=>by cases h)) (Qt g g.funcs 0 IR List.nodup_nil);obtain ⟨d,hd,hs,hl⟩:=hs0.evs hok hst (by show 13+_+_<_;omega) (by show 13+_<_;omega) (by rw [hd1.2.1];show 0+_<_;omega);rw [Cl,SU,Option.bind_some,hd,Option.bind_some,hst];simp only;obtain ⟨k,hk1,hk2⟩:=hs.kinds hl;rw [Xe,hk1,Option.bind_some,hs.bad hl hk2,Option.bind_some]
   cases Cx st st.uses with
   |some x=>rfl
   |none=>
    simp only;have hn:=hs.names hl hk2 d.things 0 [] [] (fun j x hj=>by rw [Nat.zero_add];exact hj)
    change _=some (((keys d).filter fun t=>Dt t&&Ft st t==false).foldl (fun o t=>Ep t.2 o) [],((keys d).filter fun t=>Dt t&&Ft st t==true).foldl (fun o t=>Ep t.2 o) []) at hn
    rw [hs.told hl hk2,hs.told hl hk2] at hn;have hp:=hs.parsA hl hk2 g.funcs 0 fun j f hj s hs=>(Zs hd).2 _ (List.mem_append_right _ (II g g.funcs 0 j f s hj hs))
    rw [Xj,hn,Option.bind_some,hp];rfl
end Go.Proofs.YtkfillfkbhbbjaaGreatDoor
namespace Go.Proofs.YtkfillfkbhbbjaaGreatDoor
open Go.RowKit
structure Bs where
 k:Nat
 la:Option Addr
 ln:Nat
 lc:Nat
 w0:World
 tb:Nat→Nat→ByteArray
 tn:Nat→Nat
def Mu:Nat→Nat
 |0=>7
 |1=>6
 |2=>6
 |3=>8
 |5=>9
 |6=>4
 |7=>11
 |_=>0
structure Qc (M:Bs):Prop where
 low:8≤M.w0.heap.size
 hk:M.w0.heap.size≤M.k
 tab:∀g j,g<8→j<Mu g→M.w0.cell? ⟨g,j,none⟩=some (.string (M.tb g j))
 num:∀j,j<8→M.w0.cell? ⟨4,j,none⟩=some (.float .f64 (M.tn j))
 ints:∀j,j<M.ln→∃g o z,M.la=some ⟨g,o,none⟩∧g<M.w0.heap.size∧M.w0.cell? ⟨g,o+j,none⟩=some (.int .i64 z)∧-9223372036854775808≤z∧z≤9223372036854775807
 lnb:M.ln≤9223372036854775807
structure MK (M:Bs) (i nodes:Nat) (fn:Bool) (loops:Int) (w:World):Prop where
 row:w.heap[M.k]? =some (.cells #[.slice M.la M.ln M.lc,.int .i64 i,.int .i64 nodes,.bool fn,.int .i64 loops] 77 (0,0))
 keep:Ac [] M.w0 w
def Lq(M:Bs)(I:Nat)(fn:Bool)(w:World):Prop:=∃i nodes:Nat,∃loops:Int,i≤I∧nodes≤I+100∧-(I:Int)≤loops∧loops≤I∧MK M i nodes fn loops w
theorem Lq.lt{M:Bs}{I:Nat}{fn:Bool}{w:World}(h:Lq M I fn w):M.k<w.heap.size:=by
 obtain ⟨i,n,l,-,-,-,-,h⟩:=h;exact Ad h.row
theorem MK.kp{M:Bs}(hM:Qc M){i n:Nat}{fn:Bool}{l:Int}{w w':World}{fp:List Nat}(h:MK M i n fn l w)(hk:Ac fp w w')(h1:M.k∉fp)(h2:∀x∈fp,M.w0.heap.size≤x):MK M i n fn l w':=
 ⟨hk.at h.row h1,h.keep.trans hk fun x hx=> .inr (h2 x hx)⟩
theorem Lq.kp{M:Bs}(hM:Qc M){I:Nat}{fn:Bool}{w w':World}{fp:List Nat}(h:Lq M I fn w)(hk:Ac fp w w')(h1:M.k∉fp)(h2:∀x∈fp,M.w0.heap.size≤x):Lq M I fn w':=by
 obtain ⟨i,n,l,a,b,c,d,h⟩:=h;exact ⟨i,n,l,a,b,c,d,h.kp hM hk h1 h2⟩
theorem Lq.kp0{M:Bs}(hM:Qc M){I:Nat}{fn:Bool}{w w':World}(h:Lq M I fn w)(hk:Ac [] w w'):Lq M I fn w':=h.kp hM hk qg qg
theorem Lq.to{M:Bs}{I J:Nat}{fn:Bool}{w:World}(h:Lq M I fn w)(hJ:I≤J):Lq M J fn w:=by
 obtain ⟨i,n,l,a,b,c,d,h⟩:=h;exact ⟨i,n,l,by omega,by omega,by omega,by omega,h⟩
theorem MK.upd{M:Bs}(hM:Qc M){i n i' n':Nat}{fn fn':Bool}{l l':Int}{w w':World}(h:MK M i n fn l w)(hk:Ac [M.k] w w')(hr:w'.heap[M.k]? =some (.cells #[.slice M.la M.ln M.lc,.int .i64 i',.int .i64 n',.bool fn',.int .i64 l'] 77 (0,0))):MK M i' n' fn' l' w':=
 ⟨hr,h.keep.trans hk fun x hx=>by simp at hx;subst hx;exact .inr hM.hk⟩
theorem MK.tab{M:Bs}(hM:Qc M){i n:Nat}{fn:Bool}{l:Int}{w:World}(h:MK M i n fn l w){g j:Nat}(hg:g<8)(hj:j<Mu g):w.cell? ⟨g,j,none⟩=some (.string (M.tb g j)):=by
 rw [World.cell?_of_block (w:=M.w0) (a:=⟨g,j,none⟩) (h.keep.block g (Nat.lt_of_lt_of_le hg hM.low) qg)];exact hM.tab g j hg hj
theorem Lq.tab{M:Bs}(hM:Qc M){I:Nat}{fn:Bool}{w:World}(h:Lq M I fn w){g j:Nat}(hg:g<8)(hj:j<Mu g):w.cell? ⟨g,j,none⟩=some (.string (M.tb g j)):=by
 obtain ⟨i,n,l,-,-,-,-,h⟩:=h;exact h.tab hM hg hj
theorem Lq.num{M:Bs}(hM:Qc M){I:Nat}{fn:Bool}{w:World}(h:Lq M I fn w){j:Nat}(hj:j<8):w.cell? ⟨4,j,none⟩=some (.float .f64 (M.tn j)):=by
 obtain ⟨i,n,l,-,-,-,-,h⟩:=h;rw [World.cell?_of_block (w:=M.w0) (a:=⟨4,j,none⟩) (h.keep.block 4 (Nat.lt_of_lt_of_le jh hM.low) qg)];exact hM.num j hj
theorem MK.int{M:Bs}(hM:Qc M){i n:Nat}{fn:Bool}{l:Int}{w:World}(h:MK M i n fn l w){j:Nat}(hj:j<M.ln):∃g o z,M.la=some ⟨g,o,none⟩∧g<w.heap.size∧w.cell? ⟨g,o+j,none⟩=some (.int .i64 z)∧-9223372036854775808≤z∧z≤9223372036854775807:=by
 obtain ⟨g,o,z,h1,h2,h3,h4⟩:=hM.ints j hj;exact ⟨g,o,z,h1,Nat.lt_of_lt_of_le h2 h.keep.size,by rw [World.cell?_of_block (w:=M.w0) (a:=⟨g,o+j,none⟩) (h.keep.block g h2 qg)];exact h3,h4⟩
theorem Qa{w w':World}{k g j:Nat}{v:Value}(h:Ac [k] w w')(hg:g<w.heap.size)(hn:g≠k)(hc:w.cell? ⟨g,j,none⟩=some v):w'.cell? ⟨g,j,none⟩=some v:=by
 rw [World.cell?_of_block (w:=w) (a:=⟨g,j,none⟩) (h.block g hg (by simpa using hn))];exact hc
def Ql(n:Int)(m:Nat):Nat:=(n%(m:Int)).toNat
theorem OF{n:Int}{m:Nat}(hm:0<m):Ql n m<m:=by
 unfold Ql;have h1:=Int.emod_lt_of_pos n (b:=(m:Int)) jh;have h2:=Int.emod_nonneg n (b:=(m:Int)) jh
 omega
theorem FA(n:Int): -9223372036854775808≤wrap64 n∧wrap64 n≤9223372036854775807:=by unfold wrap64;omega
theorem ZR{n:Int}(hr: -9223372036854775808≤n∧n≤9223372036854775807)(m:Nat)(hm:0<m)(hm2:m≤1000000)(w:World):Calls Tryz.prog 15 #[.int .i64 n,.int .i64 m] w fun r w'=>r= .returned (.int .i64 (Ql n m))∧w'=w:=by
 obtain ⟨h1,h2⟩:=hr;have d0:(m:Int)≠0:=by omega
 have e1:n.tmod m<m:=by have:=Int.tmod_lt_of_pos n (b:=(m:Int)) jh;exact this
 have e2: -(m:Int)<n.tmod m:=by have:=Int.lt_tmod_of_pos n (b:=(m:Int)) jh;exact this
 have e3:(Ql n m:Int)=n%m:=by
  unfold Ql;have:=Int.emod_nonneg n (b:=(m:Int)) jh
  omega
 have e4:n%m=if n.tmod m<0 then n.tmod m+m else n.tmod m:=by
  have a1:=Int.emod_nonneg n (b:=(m:Int)) jh;have a2:=Int.emod_lt_of_pos n (b:=(m:Int)) jh
  have a3:(m:Int)∣n.tmod m -n%m:=by
   have b1:=Int.mul_tdiv_add_tmod n m;have b2:=Int.mul_ediv_add_emod n m;refine ⟨n/m -n.tdiv m, ?_⟩;rw [Int.mul_sub];omega
  obtain ⟨q,hq⟩:=a3
  have b1:q=0∨q= -1:=by
   have c1:(m:Int)*q<m:=by omega
   have c2:(m:Int)*(-2)<m*q:=by omega
   have d1:q<1:=Int.lt_of_mul_lt_mul_left (a:=(m:Int)) jh jh;have d2: -2<q:=Int.lt_of_mul_lt_mul_left (a:=(m:Int)) jh jh
   omega
  rcases b1 with rfl|rfl<;>split<;>omega
 rw [←e3] at e4;generalize Ql n m=k at*
 clear e3;generalize hz:n.tmod m=z at e1 e2 e4
 go_enter Tryz.func15,Tryz.ntmps15
 by_cases hneg:z<0
 ·rw [if_pos hneg] at e4;have HE:=zh e4;clear e4
  go_wp2
  exact job
 rw [if_neg hneg] at e4;have HE:=zh e4;clear e4
 go_wp2
 exact job
theorem Qo{M:Bs}(hM:Qc M){I:Nat}{fn:Bool}{w:World}(h:Lq M I fn w)(hI:I<1000000000000)(m:Nat)(hm:0<m)(hm2:m≤1000000):Calls Tryz.prog 29 #[.pointer (some ⟨M.k,0,none⟩),.int .i64 m] w fun r w'=>∃p:Nat,p<m∧r= .returned (.int .i64 p)∧Lq M (I+1) fn w'∧Ac [M.k] w w':=by
 obtain ⟨i,nn,l,hi,hn,hl1,hl2,hk⟩:=h;have HM:=zh hM;have hlb:=hM.lnb;obtain ⟨l_k,xx⟩:=Bv hk.row;have HK:=zh hk;clear hk hM
 have fin:∀W,Ac [M.k] w W→W.heap[M.k]? =some (.cells #[.slice M.la M.ln M.lc,.int .i64 ((i:Int)+1),.int .i64 nn,.bool fn,.int .i64 l] 77 (0,0))→Lq M (I+1) fn W:=fun W h1 h2=>
  ⟨i+1,nn,l,by omega,by omega,by omega,by omega,HK.1.upd HM.1 h1 h2⟩
 have HF:=zh fin;clear fin
 by_cases h0:M.ln=0
 ·have d0:((M.ln:Int)==0)=true:=by simp [h0]
  go_enter Tryz.func29,Tryz.ntmps29
  go_wp2_with fail
  refine Ap (v:= .int .i64 ((0:Nat):Int)) (fun W=>Ac [M.k] w W∧W.heap[M.k]? =some (.cells #[.slice M.la M.ln M.lc,.int .i64 ((i:Int)+1),.int .i64 nn,.bool fn,.int .i64 l] 77 (0,0))) ⟨jg,(ja HK.1.row)⟩ (fun W hW=> ?_) rfl (fun W hW=> ?_)
  ·exact Le
  exact ⟨0,hm,rfl,HF.1 _ hW.1 hW.2,hW.1⟩
 obtain ⟨j,hj⟩:∃j:Nat,j=(i+1)%M.ln:=⟨_,rfl⟩;have hjl:j<M.ln:=by rw [hj];exact Nat.mod_lt _ jh
 obtain ⟨g,o,z,hla,hg,hc,hz1,hz2⟩:=HK.1.int HM.1 hjl;have HP:Hd (∀(n:Int) (W:World),Calls Tryz.prog 15 #[.int .i64 (IntKind.i64.wrap n),.int .i64 m] W fun r w'=>r= .returned (.int .i64 (Ql (IntKind.i64.wrap n) m))∧w'=W):=zh fun n W=>ZR (by rw [IntWalk.i64_left];exact FA n) m hm hm2 W
 have d0:((M.ln:Int)==0)=false:=by simp;omega
 have hne:g≠M.k:=by
  have:=HM.1.hk;obtain ⟨g',o',z',e1,e2,-⟩:=HM.1.ints j hjl;rw [hla] at e1;injection e1 with e1
  injection e1 with e1
  omega
 have hjz:((i:Int)+1).tmod (M.ln:Int)=(j:Int):=by rw [hj,show ((i:Int)+1)=((i+1:Nat):Int) by omega,←Int.ofNat_tmod]
 have hji:(j:Int)<(M.ln:Int):=by omega
 have HJ:=zh hj;clear hj
 go_enter Tryz.func29,Tryz.ntmps29
 go_upto_region 4 with fail
 refine Bj (fun W=>Ac [M.k] w W∧W.heap[M.k]? =some (.cells #[.slice M.la M.ln M.lc,.int .i64 ((i:Int)+1),.int .i64 nn,.bool fn,.int .i64 l] 77 (0,0))) ⟨jg,(ja HK.1.row)⟩ ?_;rintro w1 ⟨k1,c1⟩;have hc1:=Qa k1 hg hne hc;have H1:=zh (And.intro k1 c1);rw [hla] at c1;clear xx k1 hc l_k;obtain ⟨l_k,xx⟩:=Bv c1;clear c1
 go_quiet ((go_at_call 15;refine Calls.quiet_of_same (HP.1 _ _)))
 go_wp2_with fail
 have hpl:∀z,Ql z m<m:=fun z=>OF hm
 generalize hpv:Ql _ m=p;have hp:p<m:=by rw [←hpv];exact hpl _
 clear hpv;refine Ap (v:= .int .i64 (p:Int)) (fun W=>Ac [] w1 W) (Ac.drewN [] w1 nq) (fun W hW=> ?_) rfl (fun W hW=> ?_)
 ·exact Le
 obtain ⟨k1,c1⟩:=H1.1;have k2:=k1.trans hW qg;exact ⟨p,hp,rfl,HF.1 _ k2 (hW.at c1 qg),k2⟩
mutual
def Ur:Af→Prop
 | .mk k _ _ kids re im=>(k=4→kids= [])∧re=0∧im=0∧Pb kids
def Pb:List Af→Prop
 | []=>True
 |k::l=>Ur k∧Pb l
end
def Nd(b Z:Nat)(W:World)(v:Value):Prop:=∃n,Au W (fun g=>b≤g) n v∧Ur n∧Bo n≤Z
def Kd(b Z:Nat)(W:World)(v:Value):Prop:=∃ns,Bc W (fun g=>b≤g) ns v∧Pb ns∧Ar ns≤Z
theorem Nd.step{b Z:Nat}{W W':World}{v:Value}{fp:List Nat}(h:Nd b Z W v)(hk:Ac fp W W')(hf:∀x∈fp,x<b):Nd b Z W' v:=by
 obtain ⟨n,h1,h2⟩:=h;exact zpb
theorem Nd.to{b b' Z Z':Nat}{W:World}{v:Value}(h:Nd b Z W v)(hb:b'≤b)(hZ:Z≤Z'):Nd b' Z' W v:=by
 obtain ⟨n,h1,h2,h3⟩:=h;exact ⟨n,h1.keep (Ac.refl [] W) qg fun x hx=>Nat.le_trans hb hx,h2,by omega⟩
theorem Kd.step{b Z:Nat}{W W':World}{v:Value}{fp:List Nat}(h:Kd b Z W v)(hk:Ac fp W W')(hf:∀x∈fp,x<b):Kd b Z W' v:=by
 obtain ⟨n,h1,h2⟩:=h;exact zpb
theorem Kd.nil(b:Nat)(W:World):Kd b 0 W (.slice none 0 0):=⟨[],.nil,trivial,Nat.le_refl _⟩
theorem Nd.shape{b Z:Nat}{W:World}{v:Value}(h:Nd b Z W v):∃(k:Int) (nm:ByteArray) (nu:Nat) (a:Option Addr) (l c re im:Nat),v= .agg #[.int .i64 k,.string nm,.float .f64 nu,.slice a l c,.complex .f64 re im]:=by
 obtain ⟨n,h1,-⟩:=h;obtain ⟨nm,nu,a,l,c,re,im,e,-⟩:=h1.shape;exact ⟨_,nm,nu,a,l,c,re,im,e⟩
theorem Nd.mk{b Z:Nat}{W:World}{kd:Int}{nm:ByteArray}{nu:Nat}{a:Option Addr}{l c:Nat}(h:Kd b Z W (.slice a l c))(hk:kd≠4):Nd b (Z+1) W (.agg #[.int .i64 kd,.string nm,.float .f64 nu,.slice a l c,.complex .f64 0 0]):=by
 obtain ⟨ns,h1,h2,h3⟩:=h;refine ⟨.mk kd nm nu ns 0 0,.mk h1, ?_, ?_⟩
 ·rw [Ur];exact ⟨fun e=>absurd e hk,rfl,rfl,h2⟩
 rw [Bo];omega
theorem Nd.leaf(b:Nat)(W:World)(kd:Int)(nm:ByteArray)(nu re im:Nat)(h0:re=0:=by rfl)(h1:im=0:=by rfl):Nd b 1 W (.agg #[.int .i64 kd,.string nm,.float .f64 nu,.slice none 0 0,.complex .f64 re im]):=by
 refine ⟨.mk kd nm nu [] re im,.mk .nil, ?_, ?_⟩
 ·rw [Ur];exact ⟨fun _=>rfl,h0,h1,trivial⟩
 rw [Bo,Ar];omega
theorem Kd.row1{b Z:Nat}{W:World}{G:Nat}{f:Nat×Nat}{a0 a1 a2 a3 a4:Value}(h:W.heap[G]? =some (.cells #[a0,a1,a2,a3,a4] 50 f))(hb:b≤G)(h1:Nd b Z W (.agg #[a0,a1,a2,a3,a4])):Kd b Z W (.slice (some ⟨G,0,none⟩) 1 1):=by
 obtain ⟨n,q1,q2,q3⟩:=h1;refine ⟨[n],.some hb (Ad h) (.cons q1 (Aa h 0) (Aa h 1) (Aa h 2) (Aa h 3) (Aa h 4) .nil),⟨q2,trivial⟩, ?_⟩;rw [Ar,Ar];omega
theorem Kd.row2{b Z Z2:Nat}{W:World}{G:Nat}{f:Nat×Nat}{a0 a1 a2 a3 a4 b0 b1 b2 b3 b4:Value}(h:W.heap[G]? =some (.cells #[a0,a1,a2,a3,a4,b0,b1,b2,b3,b4] 50 f))(hb:b≤G)(h1:Nd b Z W (.agg #[a0,a1,a2,a3,a4]))(h2:Nd b Z2 W (.agg #[b0,b1,b2,b3,b4])):Kd b (Z+Z2) W (.slice (some ⟨G,0,none⟩) 2 2):=by
 obtain ⟨n,q1,q2,q3⟩:=h1;obtain ⟨n2,p1,p2,p3⟩:=h2;refine ⟨[n,n2],.some hb (Ad h) (.cons q1 (Aa h 0) (Aa h 1) (Aa h 2) (Aa h 3) (Aa h 4) (.cons p1 (Aa h 5) (Aa h 6) (Aa h 7) (Aa h 8) (Aa h 9) .nil)),⟨q2,p2,trivial⟩, ?_⟩;rw [Ar,Ar,Ar];omega
theorem Kd.row3{b Z Z2 Z3:Nat}{W:World}{G:Nat}{f:Nat×Nat}{a0 a1 a2 a3 a4 b0 b1 b2 b3 b4 c0 c1 c2 c3 c4:Value}(h:W.heap[G]? =some (.cells #[a0,a1,a2,a3,a4,b0,b1,b2,b3,b4,c0,c1,c2,c3,c4] 50 f))(hb:b≤G)(h1:Nd b Z W (.agg #[a0,a1,a2,a3,a4]))(h2:Nd b Z2 W (.agg #[b0,b1,b2,b3,b4]))(h3:Nd b Z3 W (.agg #[c0,c1,c2,c3,c4])):Kd b (Z+(Z2+Z3)) W (.slice (some ⟨G,0,none⟩) 3 3):=by
 obtain ⟨n,q1,q2,q3⟩:=h1;obtain ⟨n2,p1,p2,p3⟩:=h2;obtain ⟨n3,r1,r2,r3⟩:=h3;refine ⟨[n,n2,n3],.some hb (Ad h) (.cons q1 (Aa h 0) (Aa h 1) (Aa h 2) (Aa h 3) (Aa h 4) (.cons p1 (Aa h 5) (Aa h 6) (Aa h 7) (Aa h 8) (Aa h 9) (.cons r1 (Aa h 10) (Aa h 11) (Aa h 12) (Aa h 13) (Aa h 14) .nil))),⟨q2,p2,r2,trivial⟩, ?_⟩;rw [Ar,Ar,Ar,Ar];omega
theorem Kd.row4{b Z Z2 Z3 Z4:Nat}{W:World}{G:Nat}{f:Nat×Nat}{a0 a1 a2 a3 a4 b0 b1 b2 b3 b4 c0 c1 c2 c3 c4 d0 d1 d2 d3 d4:Value}(h:W.heap[G]? =some (.cells #[a0,a1,a2,a3,a4,b0,b1,b2,b3,b4,c0,c1,c2,c3,c4,d0,d1,d2,d3,d4] 50 f))(hb:b≤G)(h1:Nd b Z W (.agg #[a0,a1,a2,a3,a4]))(h2:Nd b Z2 W (.agg #[b0,b1,b2,b3,b4]))(h3:Nd b Z3 W (.agg #[c0,c1,c2,c3,c4]))(h4:Nd b Z4 W (.agg #[d0,d1,d2,d3,d4])):Kd b (Z+(Z2+(Z3+Z4))) W (.slice (some ⟨G,0,none⟩) 4 4):=by
 obtain ⟨n,q1,q2,q3⟩:=h1;obtain ⟨n2,p1,p2,p3⟩:=h2;obtain ⟨n3,r1,r2,r3⟩:=h3;obtain ⟨n4,s1,s2,s3⟩:=h4;refine ⟨[n,n2,n3,n4],.some hb (Ad h) (.cons q1 (Aa h 0) (Aa h 1) (Aa h 2) (Aa h 3) (Aa h 4) (.cons p1 (Aa h 5) (Aa h 6) (Aa h 7) (Aa h 8) (Aa h 9) (.cons r1 (Aa h 10) (Aa h 11) (Aa h 12) (Aa h 13) (Aa h 14) (.cons s1 (Aa h 15) (Aa h 16) (Aa h 17) (Aa h 18) (Aa h 19) .nil)))),⟨q2,p2,r2,s2,trivial⟩, ?_⟩;rw [Ar,Ar,Ar,Ar,Ar];omega
structure Bn (M:Bs) (I:Nat) (fn:Bool) (w W:World):Prop where
 fix:Qc M
 lt:M.k<w.heap.size
 mak:Lq M I fn W
 keep:Ac [M.k] w W
structure BnR (M:Bs) (I:Nat) (fn:Bool) (w W:World):Prop extends toBn:Bn M I fn w W where
 res:W.heap[w.heap.size]? =some (.cells #[.int .i64 0,.string ⟨#[]⟩,.float .f64 0,.slice none 0 0,.complex .f64 0 0] 50 (0,0))
theorem Bn.start{M:Bs}(hM:Qc M){I:Nat}{fn:Bool}{w:World}(h:Lq M I fn w):Bn M I fn w w:=⟨hM,h.lt,h,Ac.refl _ _⟩
theorem Bn.call{M:Bs}{I J:Nat}{fn:Bool}{w W W':World}(h:Bn M I fn w W)(hm:Lq M J fn W')(hk:Ac [M.k] W W'):Bn M J fn w W':=⟨h.fix,h.lt,hm,h.keep.trans hk qg⟩
theorem Bn.kp{M:Bs}{I:Nat}{fn:Bool}{w W W':World}(h:Bn M I fn w W)(hk:Ac [] W W'):Bn M I fn w W':=⟨h.fix,h.lt,h.mak.kp0 h.fix hk,h.keep.trans hk qg⟩
theorem BnR.start{M:Bs}{I:Nat}{fn:Bool}{w W:World}(h:Bn M I fn w w)(hk:Ac [] w W)(hr:W.heap[w.heap.size]? =some (.cells #[.int .i64 0,.string ⟨#[]⟩,.float .f64 0,.slice none 0 0,.complex .f64 0 0] 50 (0,0))):BnR M I fn w W:=⟨h.kp hk,hr⟩
theorem BnR.call{M:Bs}{I J:Nat}{fn:Bool}{w W W':World}(h:BnR M I fn w W)(hm:Lq M J fn W')(hk:Ac [M.k] W W'):BnR M J fn w W':=
 ⟨h.toBn.call hm hk,hk.at h.res jt⟩
theorem BnR.kp{M:Bs}{I:Nat}{fn:Bool}{w W W':World}(h:BnR M I fn w W)(hk:Ac [] W W'):BnR M I fn w W':=⟨h.toBn.kp hk,hk.at h.res qg⟩
theorem BnR.b{M:Bs}{I:Nat}{fn:Bool}{w W:World}(h:BnR M I fn w W):w.heap.size+1≤W.heap.size:=Ad h.res
theorem BnR.node{M:Bs}{I:Nat}{fn:Bool}{w W W':World}{Z:Nat}{v:Value}(h:BnR M I fn w W)(hn:Nd W.heap.size Z W' v):Nd (w.heap.size+1) Z W' v:=hn.to h.b (Nat.le_refl _)
theorem BnR.nd{M:Bs}{I:Nat}{fn:Bool}{w W W':World}{Z:Nat}{v:Value}(h:BnR M I fn w W)(hk:Ac [M.k] W W')(hn:Nd (w.heap.size+1) Z W v):Nd (w.heap.size+1) Z W' v:=hn.step hk jt
def Gc(M:Bs)(Z K I:Nat)(fn:Bool)(w:World)(r:Ending)(w':World):Prop:=∃v,r= .returned v∧Nd w.heap.size Z w' v∧Lq M (I+K) fn w'∧Ac [M.k] w w'
theorem BnR.fin{M:Bs}{I J K Z Z':Nat}{fn:Bool}{w W U:World}{v:Value}(h:BnR M J fn w W)(hn:Nd (w.heap.size+1) Z W v)(hU:Ac [w.heap.size] W U)(hJ:J≤I+K)(hZ:Z≤Z'):Gc M Z' K I fn w (.returned v) U:=
 ⟨v,rfl,(hn.step hU qg).to jh hZ,(h.mak.kp h.fix hU jt (by have:=h.lt;have:=h.fix.hk;simp;omega)).to hJ,h.keep.trans hU qg⟩
theorem Gc.to{M:Bs}{Z Z' K K' I:Nat}{fn:Bool}{w w':World}{r:Ending}(h:Gc M Z K I fn w r w')(hZ:Z≤Z')(hK:K≤K'):Gc M Z' K' I fn w r w':=by
 obtain ⟨v,h1,h2,h3,h4⟩:=h;exact ⟨v,h1,h2.to (Nat.le_refl _) hZ,h3.to jh,h4⟩
theorem ON(kd:Int)(nm:ByteArray)(a:Option Addr)(l c:Nat)(w:World):Calls Tryz.prog 32 #[.int .i64 kd,.string nm,.slice a l c] w fun r w'=>r= .returned (.agg #[.int .i64 kd,.string nm,.float .f64 0,.slice a l c,.complex .f64 0 0])∧Ac [] w w':=by
 go_enter Tryz.func32,Tryz.ntmps32
 go_wp2_with fail
 refine Ap (v:= .agg #[.int .i64 kd,.string nm,.float .f64 0,.slice a l c,.complex .f64 0 0]) (fun W=>Ac [] w W∧W.heap[w.heap.size]? =some (.cells #[.int .i64 kd,.string nm,.float .f64 0,.slice a l c,.complex .f64 0 0] 50 (0,0))) ⟨jg,zb⟩ (fun W hW=> ?_) rfl (fun W hW=>⟨rfl,hW.1⟩);obtain ⟨-,x0,x1,x2,x3,x4,-⟩:=Bv hW.2;exact jpb
theorem TN(nu:Nat)(w:World):Calls Tryz.prog 59 #[.float .f64 nu] w fun r w'=>r= .returned (.agg #[.int .i64 1,.string ⟨#[]⟩,.float .f64 nu,.slice none 0 0,.complex .f64 0 0])∧Ac [] w w':=by
 go_enter Tryz.func59,Tryz.ntmps59
 go_wp2_with fail
 refine Ap (v:= .agg #[.int .i64 1,.string ⟨#[]⟩,.float .f64 nu,.slice none 0 0,.complex .f64 0 0]) (fun W=>Ac [] w W∧W.heap[w.heap.size]? =some (.cells #[.int .i64 1,.string ⟨#[]⟩,.float .f64 nu,.slice none 0 0,.complex .f64 0 0] 50 (0,0))) ⟨jg,zb⟩ (fun W hW=> ?_) rfl (fun W hW=>⟨rfl,hW.1⟩);obtain ⟨-,x0,x1,x2,x3,x4,-⟩:=Bv hW.2;exact jpb
end Go.Proofs.YtkfillfkbhbbjaaGreatDoor
