/- PLg, PLh, PLi, DSpec, DLaw, DLawB. -/
import Derived.Test.YtkfillfkbhbbjaaGreatDoorPLf
set_option maxRecDepth 100000
set_option maxHeartbeats 4000000
set_option linter.unusedSimpArgs false
set_option linter.unusedVariables false
namespace Go.Proofs.YtkfillfkbhbbjaaGreatDoor
theorem Mg(f:Az)(s:ByteArray):∀(l:List ByteArray) (st:NS),(Jv f s l st).uses=st.uses∧(Jv f s l st).same=st.same∧(Jv f s l st).seen=st.seen∧(Jv f s l st).fn=st.fn
 | [],st=>⟨rfl,rfl,rfl,rfl⟩
 | t::l,st=>by
   have h:=Mg f s l (if same t s then Al st f.re f.im 29 else st);rw [Jv];refine ⟨h.1.trans ?_,h.2.1.trans ?_,h.2.2.1.trans ?_,h.2.2.2.trans ?_⟩<;>(split<;>(try unfold Al;split)<;>rfl)
theorem Fb(st:NS)(re im:Nat)(e:Int):(Al st re im e).uses=st.uses∧(Al st re im e).same=st.same∧(Al st re im e).seen=st.seen∧(Al st re im e).fn=st.fn:=by unfold Al;split<;>exact ⟨rfl,rfl,rfl,rfl⟩
theorem Tu(g:Ah)(i:Nat)(f:Az):∀(l pre:List ByteArray) (st:NS),(Dx g i f pre l st).uses=st.uses∧(Dx g i f pre l st).same=st.same∧(Dx g i f pre l st).seen.length≤st.seen.length+l.length∧(Dx g i f pre l st).fn=st.fn
 | [],pre,st=>⟨rfl,rfl,Nat.le_refl _,rfl⟩
 | s::l,pre,st=>by
   rw [Dx];have h1:=Mg f s pre st;generalize Jv f s pre st=s1 at*
   have h2:(if Am s||decide (flook g s>0) then Al s1 f.re f.im 28 else s1).uses=s1.uses∧(if Am s||decide (flook g s>0) then Al s1 f.re f.im 28 else s1).same=s1.same∧(if Am s||decide (flook g s>0) then Al s1 f.re f.im 28 else s1).seen=s1.seen∧(if Am s||decide (flook g s>0) then Al s1 f.re f.im 28 else s1).fn=s1.fn:=by
    split
    ·exact Fb _ _ _ _
    exact ⟨rfl,rfl,rfl,rfl⟩
   generalize (if Am s||decide (flook g s>0) then Al s1 f.re f.im 28 else s1)=s2 at*
   have h3:=Tu g i f l (pre++ [s]) (Df s2 (i+1,s))
   have h4:(Df s2 (i+1,s)).seen.length≤s2.seen.length+1:=by
    unfold Df;simp only;split
    ·omega
    simp
   refine ⟨h3.1.trans (h2.1.trans h1.1),h3.2.1.trans (h2.2.1.trans h1.2.1), ?_,h3.2.2.2.trans (h2.2.2.2.trans h1.2.2.2)⟩;have:=h3.2.2.1;rw [h2.2.2.1,h1.2.2.1] at h4;rw [List.length_cons];omega
def Ij:List Az→Nat
 | []=>0
 |f::l=>f.params.length+Ij l
theorem Kp(g:Ah):∀(l:List Az) (i:Nat) (st:NS),(Er g i l st).uses=st.uses∧(Er g i l st).same=st.same∧(Er g i l st).seen.length≤st.seen.length+Ij l∧(Er g i l st).fn=st.fn
 | [],i,st=>⟨rfl,rfl,Nat.le_refl _,rfl⟩
 | f::l,i,st=>by
   rw [Er]
   have h2:∀s,s=(if flook g f.name≠i+1 then Al st f.re f.im 29 else if Am f.name then Al st f.re f.im 28 else st)→s.uses=st.uses∧s.same=st.same∧s.seen=st.seen∧s.fn=st.fn:=by
    rintro _ rfl
    split
    ·exact Fb _ _ _ _
    split
    ·exact Fb _ _ _ _
    exact ⟨rfl,rfl,rfl,rfl⟩
   have h2:=h2 _ rfl;generalize (if flook g f.name≠i+1 then Al st f.re f.im 29 else if Am f.name then Al st f.re f.im 28 else st)=s1 at*
   have h1:=Tu g i f f.params [] s1;have h3:=Kp g l (i+1) (Dx g i f [] f.params s1);refine ⟨h3.1.trans (h1.1.trans h2.1),h3.2.1.trans (h1.2.1.trans h2.2.1), ?_,h3.2.2.2.trans (h1.2.2.2.trans h2.2.2.2)⟩;have:=h3.2.2.1;have:=h1.2.2.1;rw [Ij];rw [h2.2.2.1] at this;omega
def fT(x:Ic):Ox:=⟨⟨[],[],[]⟩,x.2.1,x.2.2,x.1⟩
def hd(g:Ah):NS:=Er g 0 g.funcs IR
def MS(g:Ah):List Ev:=LU g g.rules++Ou g 0 g.funcs
def Qw(g:Ah):Option Ic:=(Mi g g.rules).or (Ip g 0 g.funcs)
def Ek(g:Ah):Ox:=match Gn (hd g) with
 |some x=>fT x
 | none=>match Qw g with
   |some x=>fT x
   | none=>match evs (MS g) (hd g) with
     |none=>fT (0,0,0)
     | some st=>match Cx st st.uses with
       |some x=>fT x
       |none=>⟨Wn st g,0,0,0⟩
structure WH (g:Ah):Prop where
 rules:∀r∈g.rules,Oy r.pats∧Yg r.body
 funcs:∀f∈g.funcs,Yg f.body
 size:2*(Fs g.rules+In g.funcs)+Ij g.funcs≤400000
theorem Sa:∀l:List Cy,l.length≤Fs l
 | []=>Nat.le_refl _
 |r::l=>by have:=Sa l;have:=Ci r.body;rw [Fs,List.length_cons];omega
theorem Ob:∀{l:List Cy} {r:Cy},r∈l→Ar r.pats≤Fs l
 | x::l,r,h=>by
   rw [Fs]
   rcases List.mem_cons.1 h with rfl|h
   ·omega
   have:=Ob h;omega
theorem Oj:∀l:List Az,l.length≤In l
 | []=>Nat.le_refl _
 |r::l=>by have:=Oj l;have:=Ci r.body;rw [In,List.length_cons];omega
theorem Sd:∀{l:List Az} {r:Az},r∈l→r.params.length≤Ij l
 | x::l,r,h=>by
   rw [Ij]
   rcases List.mem_cons.1 h with rfl|h
   ·omega
   have:=Sd h;omega
theorem Su{st:NS}:Gn st=none↔st.e=0:=by unfold Gn;split<;>simp_all
theorem St{st:NS}{x:Ic}(h:Gn st=some x):st.e≠0∧x=(st.e,st.re,st.im):=by
 unfold Gn at h;split at h
 ·cases h
 rename_i h0;exact ⟨h0,(Option.some.inj h).symm⟩
theorem Nh{st:NS}{g:Ah}{x:Ic}(h:Gn st=some x):Wd st g=some (fT x):=by
 obtain ⟨h0,rfl⟩:=St h;rw [Wd,if_pos h0];rfl
theorem OO{st:NS}{g:Ah}(h:Gn st=none)(hs:Ja st.same):Wd st g=some ⟨Wn st g,0,0,0⟩:=by
 have h0:=Su.1 h;obtain ⟨k,h1,h2⟩:=Tq hs;rw [Wd,if_neg (by simpa using h0)];simp only [h1,GC hs h2,Option.bind_eq_bind,Option.bind_some]
theorem BY{fu:Nat}{g:Ah}(h:WH g)(hfu:200000≤fu):Kv fu g=some (Ek g):=by
 have hsz:=h.size;have hd1:=Kp g g.funcs 0 IR
 change (hd g).uses= []∧(hd g).same= []∧(hd g).seen.length≤0+Ij g.funcs∧(hd g).fn=0 at hd1
 obtain ⟨hu,hm,hn,hf⟩:=hd1;have hs:Ja (hd g).same:=by rw [hm];exact .nil
 have hsm:Pl g=true:=by
  have a1:=Sa g.rules;have a2:=Oj g.funcs;simp only [Pl,Bool.and_eq_true,decide_eq_true_eq,List.all_eq_true];refine ⟨⟨⟨by omega,by omega⟩,fun f hf=> ?_⟩,fun r hr=> ?_⟩
  ·have:=Sd hf;omega
  have:=Ob hr;have:=Jl r.pats;omega
 rw [Kv,if_neg (by simp [hsm])];show (FC fu g (hd g)).bind _=_;unfold Ek
 cases hh:Gn (hd g) with
 |some x=>
  have h0:=(St hh).1;rw [FC,if_neg h0,Option.bind_some,if_neg jx];show (AQ (hd g)).bind _=_;rw [AQ,if_neg h0,Option.bind_some];exact Nh hh
 | none=>
  have h0:=Su.1 hh;obtain ⟨s1,e1,f1,r1⟩:=Sb (g:=g) (fu:=fu) (l:=g.rules) (st:=hd g) h.rules jh hf hs jx jh;have u1:=r1.grew.1;rw [hu] at u1;simp only [List.length_nil] at u1;obtain ⟨s2,e2,r2⟩:=Sc (g:=g) (fu:=fu) (l:=g.funcs) (i:=0) (st:=s1) h.funcs jh r1.same jh jh;have r12:=r1.trans r2 (Nat.le_refl _);have hg:=r12.grew;rw [hu] at hg;simp only [List.length_nil] at hg
  have hall:FC fu g (hd g)=some s2:=by
   rw [FC,if_pos h0];simp only [Option.bind_eq_bind,e1,e2,Option.bind_some]
  rw [hall,Option.bind_some,if_neg jh];have hfl:=r12.flt;rw [hh] at hfl
  change Gn s2=Qw g at hfl
  show (AQ s2).bind _=_
  cases hp:Qw g with
  |some x=>
   rw [hp] at hfl;rw [AQ,if_neg (St hfl).1,Option.bind_some];exact Nh hfl
  | none=>
   rw [hp] at hfl;obtain ⟨s3,e3,rfl⟩:=r12.ev hp;have e3':evs (MS g) (Fm (hd g) s2.fn s2.rule s2.loops)=some s2:=e3;rw [Qy,Option.map_eq_some_iff] at e3';obtain ⟨s3,e4,e5⟩:=e3';rw [e4];obtain ⟨k,k1,k2⟩:=Tq r12.same;obtain ⟨s4,a1,a2,a3,a4,a5⟩:=Rj r12.same k2 s2.uses s2 rfl rfl rfl
   have harr:AQ s2=some s4:=by
    rw [AQ,if_pos (Su.1 hfl)];simp only [Option.bind_eq_bind,k1,Option.bind_some,a1]
   rw [harr,Option.bind_some]
   have hb:Cx s2 s2.uses=Cx s3 s3.uses:=by
    rw [←e5];show Cx (Fm s3 s2.fn s2.rule s2.loops) s3.uses=_;generalize s3.uses=l
    induction l with
    |nil=>rfl
    |cons u l ih=>rw [Cx,Cx,ih];rfl
   rw [hfl,hb] at a5
   change Gn s4=Cx s3 s3.uses at a5
   show _=some (match Cx s3 s3.uses with|some x=>fT x|none=>⟨Wn s3 g,0,0,0⟩)
   cases hx:Cx s3 s3.uses with
   |some x=>
    rw [hx] at a5;exact Nh a5
   | none=>
    rw [hx] at a5;rw [OO a5 (by rw [a2];exact r12.same)]
    have hi:Wn s4 g=Wn s3 g:=by
     have q1:s4.same=s3.same:=by rw [a2,←e5];rfl
     have q2:s4.uses=s3.uses:=by rw [a3,←e5];rfl
     have q3:s4.seen=s3.seen:=by rw [a4,←e5];rfl
     have hk:∀t,Ft s4 t=Ft s3 t:=fun t=>by unfold Ft Mq;rw [q1,q2,q3]
     have hq:∀(l:List Az) (i:Nat),Tl s4 i l=Tl s3 i l:=by
      intro l
      induction l with
      |nil=>intro i;rfl
      |cons f l ih=>intro i;rw [Tl,Tl,ih];congr 1;unfold IM;simp only [hk]
     unfold Wn;rw [q3,hq];simp only [hk]
    rw [hi]
end Go.Proofs.YtkfillfkbhbbjaaGreatDoor
namespace Go.Proofs.YtkfillfkbhbbjaaGreatDoor
/-! ### texts in order -/
theorem So:∀{a b},Pp a b=true→Pp b a=false
 | [],[],h=>by cases h
 | [],_::_,_=>rfl
 |_::_,[],h=>by cases h
 | x::a,y::b,h=>by
   rw [Pp] at h⊢
   by_cases h1:x<y
   ·rw [if_neg (by simp only [UInt8.not_lt];exact UInt8.le_of_lt h1),if_pos h1]
   rw [if_neg h1] at h
   by_cases h2:y<x
   ·rw [if_pos h2] at h;cases h
   rw [if_neg h2] at h;rw [if_neg h2,if_neg h1];exact So h
theorem FD{x y:UInt8}(h1:¬x<y)(h2:¬y<x):x=y:=by
 have h1:y.toNat≤x.toNat:=by rw [UInt8.lt_iff_toNat_lt] at h1;omega
 have h2:x.toNat≤y.toNat:=by rw [UInt8.lt_iff_toNat_lt] at h2;omega
 exact UInt8.toNat_inj.1 (Nat.le_antisymm h2 h1)
theorem Sn:∀{a b c},Pp a b=true→Pp b c=true→Pp a c=true
 |_,[],_,h,_=>by cases h':(‹List UInt8›:List UInt8)<;>simp_all [Pp]
 |_,_::_,[],_,h=>by cases h
 | [],_::_,_::_,_,_=>rfl
 | x::a,y::b,z::c,h,k=>by
   rw [Pp] at h k⊢
   by_cases h1:x<y
   ·by_cases k1:y<z
    ·rw [if_pos (UInt8.lt_trans h1 k1)]
    rw [if_neg k1] at k
    by_cases k2:z<y
    ·rw [if_pos k2] at k;cases k
    have:=FD k1 k2;subst this;rw [if_pos h1]
   rw [if_neg h1] at h
   by_cases h2:y<x
   ·rw [if_pos h2] at h;cases h
   rw [if_neg h2] at h;have:=FD h1 h2;subst this
   by_cases k1:x<z
   ·rw [if_pos k1]
   rw [if_neg k1] at k⊢
   by_cases k2:z<x
   ·rw [if_pos k2] at k;cases k
   rw [if_neg k2] at k⊢;exact Sn h k
theorem IW:∀{a b},Pp a b=false→Pp b a=false→a=b
 | [],[],_,_=>rfl
 | [],_::_,h,_=>by cases h
 |_::_,[],_,h=>by cases h
 | x::a,y::b,h,k=>by
   rw [Pp] at h k
   by_cases h1:x<y
   ·rw [if_pos h1] at h;cases h
   rw [if_neg h1] at h
   by_cases h2:y<x
   ·rw [if_pos h2] at k;cases k
   rw [if_neg h2] at h k;rw [if_neg h1] at k;rw [FD h1 h2,IW h k]
def EX(a b:ByteArray):Bool:=Pp a.data.toList b.data.toList
theorem Us{a b:ByteArray}(h:EX a b=false)(k:EX b a=false):a=b:=by
 have:=IW h k
 cases a with|mk x=>cases b with|mk y=>exact congrArg ByteArray.mk (Array.toList_inj.1 this)
theorem Dc(s x:ByteArray)(l:List ByteArray):Ep s (x::l)=if EX x s=true then x::Ep s l else s::x::l:=rfl
theorem Zf(a b:ByteArray):∀l,Ep a (Ep b l)=Ep b (Ep a l)
 | []=>by
   show Ep a [b]=Ep b [a];rw [Dc,Dc]
   cases h:EX b a with
   |true=>have:=So h;rw [if_pos rfl,if_neg (by rw [show EX a b=false from this];simp)];rfl
   |false=>
    cases k:EX a b with
    |true=>rfl
    |false=>rw [Us h k]
 | x ::l=>by
   rw [Dc,Dc];have ih:=Zf a b l
   cases hb:EX x b with
   | true=>
    rw [if_pos rfl,Dc]
    cases ha:EX x a with
    |true=>rw [if_pos rfl,if_pos rfl,Dc,hb,if_pos rfl,ih]
    | false=>
     rw [if_neg qg,if_neg qg,Dc]
     -- a ≤ x < b
     have hab:EX a b=true:=by
      cases hax:EX a x with
      |true=>exact Sn hax hb
      |false=>have:=Us ha hax;rw [←this];exact hb
     rw [hab,if_pos rfl,Dc,hb,if_pos rfl]
   | false=>
    rw [if_neg qg,Dc]
    cases ha:EX x a with
    | true=>
     rw [if_pos rfl]
     have hba:EX b a=true:=by
      cases hbx:EX b x with
      |true=>exact Sn hbx ha
      |false=>have:=Us hb hbx;rw [←this];exact ha
     rw [hba,if_pos rfl,Dc,ha,if_pos rfl,Dc,hb,if_neg qg]
    | false=>
     have e1:(if (false:Bool)=true then x::Ep a l else a::x::l)=a::x::l:=rfl;rw [e1,Dc,Dc,Dc]
     cases h:EX b a with
     |true=>
      have:=So h;rw [show EX a b=false from this,ha];rfl
     |false=>
      cases k:EX a b with
      |true=>rw [hb];rfl
      |false=>have:=Us h k;subst this;rfl
theorem Vf{l m:List ByteArray}(h:l.Perm m):Cr l=Cr m:=by
 induction h with
 |nil=>rfl
 |cons x _ ih=>simp only [Cr,ih]
 |swap x y l=>simp only [Cr];exact Zf y x _
 |trans _ _ h1 h2=>exact h1.trans h2
/-! ### what events do, whatever their order -/
inductive Rp (R:List (Ae×Ae)):Ae→Ae→Prop
 |refl (x:Ae):Rp R x x
 |symm {x y:Ae} (h:Rp R x y):Rp R y x
 |trans {x y z:Ae} (h:Rp R x y) (k:Rp R y z):Rp R x z
 |of {a b:Ae} (h:(a,b)∈R):Rp R a b
theorem Rp.mono{R S:List (Ae×Ae)}(h:∀x∈R,x∈S){x y:Ae}(c:Rp R x y):Rp S x y:=by
 induction c with
 |refl=>exact .refl _
 |symm _ ih=>exact ih.symm
 |trans _ _ i j=>exact i.trans j
 |of hm=>exact .of (h _ hm)
def Uni(m:Ew)(R:List (Ae×Ae)):Prop:=Ja m∧∀x y,rt m x=rt m y↔Rp R x y
theorem Qk(m:Ew)(a p x:Ae):rt (Kn m a p) x=if rt m x=rt m a then rt m p else rt m x:=by
 unfold Kn
 by_cases h:rt m a=rt m p
 ·rw [if_pos h];split
  ·rename_i k;rw [k,h]
  rfl
 rw [if_neg h,Yq]
theorem Uni.nil:Uni [] []:=⟨.nil,fun x y=>⟨fun h=>by have h:x=y:=h;subst h;exact .refl _,fun h=>by
 induction h with
 |refl=>rfl
 |symm _ ih=>exact ih.symm
 |trans _ _ i j=>exact i.trans j
 |of h=>cases h⟩⟩
theorem Uni.link{m:Ew}{R:List (Ae×Ae)}(h:Uni m R)(a p:Ae):Uni (Kn m a p) (R++ [(a,p)]):=by
 obtain ⟨h1,h2⟩:=h;refine ⟨h1.link a p,fun x y=>⟨fun e=> ?_,fun c=> ?_⟩⟩
 ·have up:∀{x y},Rp R x y→Rp (R++ [(a,p)]) x y:=fun c=>c.mono fun z hz=>List.mem_append_left _ hz
  have key:∀x,∃z,rt (Kn m a p) x=rt m z∧Rp (R++ [(a,p)]) x z:=fun x=>by
   rw [Qk]
   by_cases hx:rt m x=rt m a
   ·rw [if_pos hx];exact ⟨p,rfl,(up ((h2 _ _).1 hx)).trans (.of qg)⟩
   rw [if_neg hx];exact ⟨x,rfl,.refl _⟩
  obtain ⟨zx,e1,c1⟩:=key x;obtain ⟨zy,e2,c2⟩:=key y;rw [e1,e2] at e;exact c1.trans ((up ((h2 _ _).1 e)).trans c2.symm)
 induction c with
 |refl=>rfl
 |symm _ ih=>exact ih.symm
 |trans _ _ i j=>exact i.trans j
 |of hm=>
  rcases List.mem_append.1 hm with hm|hm
  ·have:=(h2 _ _).2 (.of hm);rw [Qk,Qk,this]
  simp only [List.mem_singleton,Prod.mk.injEq] at hm;obtain ⟨rfl,rfl⟩:=hm;rw [Qk,Qk,if_pos rfl]
  split<;>rfl
theorem Rv{t:Ae}:∀{l:List Ae},Vb t l=true↔t∈l
 | []=>by simp [Vb]
 | x::l=>by
   rw [Vb,List.mem_cons,←Rv]
   by_cases h:t=x
   ·rw [if_pos (Fw.2 h)];simp [h]
   rw [if_neg (fun k=>h (Fw.1 k))];simp [h]
theorem CF(st:NS)(t x:Ae):x∈(Df st t).seen↔x∈st.seen∨x=t:=by
 unfold Df;simp only
 by_cases h:Vb t st.seen=true
 ·rw [if_pos h];have:=Rv.1 h;exact ⟨.inl,fun k=>k.elim id fun e=>e▸this⟩
 rw [if_neg h];simp
theorem Yz{st:NS}(t:Ae)(h:st.seen.Nodup):(Df st t).seen.Nodup:=by
 unfold Df;simp only
 by_cases hm:Vb t st.seen=true
 ·rw [if_pos hm];exact h
 rw [if_neg hm];rw [List.nodup_append];refine ⟨h,by simp,fun a ha b hb=> ?_⟩;simp only [List.mem_singleton] at hb;subst hb;rintro rfl;exact hm (Rv.2 ha)
theorem KS(st:NS)(t:Ae):(Bp st t).uses=st.uses∧(Bp st t).same=st.same∧(∀x,x∈(Bp st t).seen↔x∈st.seen∨x∈(if t.1=0 then [t] else []:List Ae))∧(st.seen.Nodup→(Bp st t).seen.Nodup):=by
 unfold Bp
 split
 ·exact ⟨rfl,rfl,fun x=>by rw [CF];simp,Yz t⟩
 exact ⟨rfl,rfl,fun x=>by simp,id⟩
theorem AE{st st':NS}{u:Kf}(h:Hp st u=some st'):st'.uses=st.uses++ [u]∧st'.same=st.same∧st'.seen=st.seen:=by
 unfold Hp at h;split at h
 ·cases h;exact ⟨rfl,rfl,rfl⟩
 cases h
end Go.Proofs.YtkfillfkbhbbjaaGreatDoor
namespace Go.Proofs.YtkfillfkbhbbjaaGreatDoor
/-! ### no fault, whatever the order -/
structure RK (st:NS):Prop where
 no:∀u∈st.uses,Un st u=false
structure Ny (a b:NS):Prop where
 wa:Ja a.same
 wb:Ja b.same
 uni:∀x y,rt a.same x=rt a.same y↔rt b.same x=rt b.same y
 uses:∀u,u∈a.uses↔u∈b.uses
 seen:∀t,t∈a.seen↔t∈b.seen
theorem Ny.symm{a b:NS}(h:Ny a b):Ny b a:=⟨h.wb,h.wa,fun x y=>(h.uni x y).symm,fun u=>(h.uses u).symm,fun t=>(h.seen t).symm⟩
theorem Pk(m:Ew)(r:Ae):∀l:List Ae,Dq m r l=true↔∃t∈l,Qh t=true∧rt m t=r
 | []=>by simp [Dq]
 |t::l=>by rw [Dq,Bool.or_eq_true,Pk m r l];simp
theorem Ny.spec{a b:NS}(h:Ny a b)(t:Ae):Dq a.same (rt a.same t) a.seen=Dq b.same (rt b.same t) b.seen:=by
 have:Dq a.same (rt a.same t) a.seen=true↔Dq b.same (rt b.same t) b.seen=true:=by
  rw [Pk,Pk]
  constructor
  ·rintro ⟨x,h1,h2,h3⟩;exact ⟨x,(h.seen x).1 h1,h2,(h.uni _ _).1 h3⟩
  rintro ⟨x,h1,h2,h3⟩;exact ⟨x,(h.seen x).2 h1,h2,(h.uni _ _).2 h3⟩
 cases h1:Dq a.same (rt a.same t) a.seen<;>cases h2:Dq b.same (rt b.same t) b.seen<;>simp_all
theorem Jg(m:Ew)(r:Ae):∀l:List Kf,(Cc m r l=0∧∀u∈l,Hc m r u=false)∨∃u∈l,Hc m r u=true∧Cc m r l=if u.array then 2 else 1
 | []=> .inl ⟨rfl,by simp⟩
 | u::l=>by
   rw [Cc]
   cases h:Hc m r u with
   |true=>exact .inr ⟨u,List.mem_cons_self ..,h,by rw [if_pos rfl]⟩
   |false=>
    rw [if_neg qg]
    rcases Jg m r l with ⟨h1,h2⟩|⟨v,h1,h2,h3⟩
    ·exact .inl ⟨h1,fun v hv=>(List.mem_cons.1 hv).elim (fun e=>e▸h) (h2 v)⟩
    exact .inr ⟨v,List.mem_cons_of_mem _ h1,h2,h3⟩
theorem Nz{m:Ew}{r:Ae}{u:Kf}:Hc m r u=true↔u.kid=false∧u.bad=false∧rt m u.of=r:=by
 unfold Hc
 cases u.kid<;>cases u.bad<;>simp
theorem Ny.kof{a b:NS}(h:Ny a b)(hn:RK a)(t:Ae):Mq b (rt b.same t)=Mq a (rt a.same t):=by
 unfold Mq;rw [←h.spec t]
 cases hs:Dq a.same (rt a.same t) a.seen with
 |true=>rfl
 | false=>
  simp only [Bool.false_eq_true,if_false]
  rcases Jg b.same (rt b.same t) b.uses with ⟨h1,h2⟩|⟨u,h1,h2,h3⟩
  ·rcases Jg a.same (rt a.same t) a.uses with ⟨g1,-⟩|⟨v,g1,g2,-⟩
   ·rw [h1,g1]
   exfalso
   have:=h2 v ((h.uses v).1 g1);obtain ⟨k1,k2,k3⟩:=Nz.1 g2;rw [Nz.2 ⟨k1,k2,(h.uni _ _).1 k3⟩] at this
   cases this
  obtain ⟨k1,k2,k3⟩:=Nz.1 h2;have k4:rt a.same u.of=rt a.same t:=(h.uni _ _).2 k3;have hu:=hn.no u ((h.uses u).2 h1);unfold Un at hu;rw [k1,k2,k4] at hu;simp only [Bool.false_eq_true,if_false] at hu;have hk:Mq a (rt a.same t)=Cc a.same (rt a.same t) a.uses:=by unfold Mq;rw [hs];rfl
  rw [hk] at hu
  rcases Jg a.same (rt a.same t) a.uses with ⟨g1,g2⟩|⟨v,-,-,g3⟩
  ·exfalso
   have:=g2 u ((h.uses u).2 h1);rw [Nz.2 ⟨k1,k2,k4⟩] at this
   cases this
  rw [h3,g3];rw [g3] at hu
  cases hua:u.array<;>cases hva:v.array<;>rw [hua,hva] at hu<;>first|rfl|cases hu
theorem Ny.arr{a b:NS}(h:Ny a b)(hn:RK a)(t:Ae):Ft b t=Ft a t:=by unfold Ft;rw [h.kof hn]
theorem Ny.names{a b:NS}(h:Ny a b)(hn:RK a)(na:a.seen.Nodup)(nb:b.seen.Nodup)(x:Bool):Cr ((a.seen.filter fun t=>Dt t&&Ft a t==x).map (·.2))=Cr ((b.seen.filter fun t=>Dt t&&Ft b t==x).map (·.2)):=by
 have hp:a.seen.Perm b.seen:=(List.perm_ext_iff_of_nodup na nb).2 h.seen;simp only [h.arr hn];exact Vf ((hp.filter _).map _)
theorem XO{g:Ah}(h:WH g)(h1:Qw g=none):∃st,evs (MS g) (hd g)=some st:=by
 have hsz:=h.size;have hd1:=Kp g g.funcs 0 IR
 change (hd g).uses= []∧(hd g).same= []∧(hd g).seen.length≤0+Ij g.funcs∧(hd g).fn=0 at hd1
 obtain ⟨hu,hm,hn,hf⟩:=hd1;have hs:Ja (hd g).same:=by rw [hm];exact .nil
 obtain ⟨s1,e1,f1,r1⟩:=Sb (g:=g) (fu:=200000) (l:=g.rules) (st:=hd g) h.rules jh hf hs jx jh;have u1:=r1.grew.1;rw [hu] at u1;simp only [List.length_nil] at u1;obtain ⟨s2,e2,r2⟩:=Sc (g:=g) (fu:=200000) (l:=g.funcs) (i:=0) (st:=s1) h.funcs jh r1.same jh jh;have r12:=r1.trans r2 (Nat.le_refl _);obtain ⟨s3,e3,rfl⟩:=r12.ev h1;have e3':evs (MS g) (Fm (hd g) s2.fn s2.rule s2.loops)=some s2:=e3;rw [Qy,Option.map_eq_some_iff] at e3';obtain ⟨s3,e4,-⟩:=e3';exact ⟨s3,e4⟩
theorem Qu(g:Ah)(i:Nat)(f:Az):∀(l pre:List ByteArray) (st:NS),st.seen.Nodup→(Dx g i f pre l st).seen.Nodup
 | [],pre,st,h=>h
 | s::l,pre,st,h=>by
   rw [Dx];refine Qu g i f l _ _ (Yz _ ?_);have h1:=Mg f s pre st
   split
   ·rw [(Fb _ _ _ _).2.2.1,h1.2.2.1];exact h
   rw [h1.2.2.1];exact h
theorem Qt(g:Ah):∀(l:List Az) (i:Nat) (st:NS),st.seen.Nodup→(Er g i l st).seen.Nodup
 | [],i,st,h=>h
 | f::l,i,st,h=>by
   rw [Er];refine Qt g l _ _ (Qu g i f _ _ _ ?_)
   split
   ·rw [(Fb _ _ _ _).2.2.1];exact h
   split
   ·rw [(Fb _ _ _ _).2.2.1];exact h
   exact h
def Cz(x:Option Ic):Prop:=∀y,x=some y→y.1≠0
theorem Cz.or{a b:Option Ic}(h:Cz a)(k:Cz b):Cz (a.or b):=by
 cases a with
 |none=>exact k
 |some x=>exact h
theorem Cz.none:Cz none:=fun _ h=>by cases h
theorem Cz.some{e:Int}{re im:Nat}(h:e≠0):Cz (some (e,re,im)):=fun _ k=>by cases k;exact h
theorem Cz.ite{c:Prop}[Decidable c]{a b:Option Ic}(h:Cz a)(k:Cz b):Cz (if c then a else b):=by split<;>assumption
theorem JD(g:Ah)(fn:Nat)(kd lo k:Int)(nm:ByteArray)(kids:List Af)(re im:Nat):Cz (Iq g fn kd lo k nm kids re im):=by
 have s:∀{e:Int} (re im:Nat),e≠0→Cz (some (e,re,im)):=fun _ _ h=>Cz.some h
 have hx:Cz (Qe nm kids):=by
  unfold Qe;split
  ·exact Cz.ite (s _ _ zi) Cz.none
  exact Cz.none
 unfold Iq;refine Cz.ite (Cz.ite (s _ _ zi) Cz.none) (Cz.ite (Cz.ite (s _ _ zi) (Cz.ite (s _ _ zi) Cz.none)) (Cz.ite (Cz.ite (s _ _ zi) hx) (Cz.ite (Cz.ite (s _ _ zi) Cz.none) (Cz.ite (Cz.ite (s _ _ zi) Cz.none) (Cz.ite (Cz.ite (s _ _ zi) Cz.none) Cz.none)))))
mutual
theorem Kr(g:Ah)(fn:Nat)(kd:Int):∀(n:Af) (lo:Int),Cz (Dg g fn kd lo n)
 | .mk k nm x kids re im,lo=>by rw [Dg];exact Cz.or (JD _ _ _ _ _ _ _ _ _) (Om g fn kd kids _ _ _)
theorem Om(g:Ah)(fn:Nat)(kd:Int):∀(l:List Af) (lo:Int) (lp:Bool) (i:Nat),Cz (Cg g fn kd lo lp i l)
 | [],lo,lp,i=>by rw [Cg];exact Cz.none
 | k::l,lo,lp,i=>by
   rw [Cg];refine Cz.or (Cz.or ?_ (Kr g fn kd k lo)) (Om g fn kd l _ _ _);unfold Pu;exact Cz.ite (Cz.some zi) Cz.none
end
theorem UX(g:Ah):Cz (Qw g):=by
 have h1:∀l,Cz (Mi g l):=fun l=>by
  induction l with
  |nil=>exact Cz.none
  |cons x l ih=>rw [Mi];exact Cz.or (Cz.or (Om _ _ _ _ _ _ _) (Kr _ _ _ _ _)) ih
 have h2:∀l i,Cz (Ip g i l):=fun l=>by
  induction l with
  |nil=>intro i;exact Cz.none
  |cons x l ih=>intro i;rw [Ip];exact Cz.or (Kr _ _ _ _ _) (ih _)
 exact Cz.or (h1 _) (h2 _ _)
def Aav(g:Ah):Ah:=⟨g.rules.reverse,g.funcs⟩
end Go.Proofs.YtkfillfkbhbbjaaGreatDoor
namespace Go.Proofs.YtkfillfkbhbbjaaGreatDoor
def Sy(g:Ah)(f:Az):List ByteArray→List ByteArray→Option Ic
 |_,[]=>none
 |pre,s::l=>((if Dn s pre then some (29,f.re,f.im) else none:Option Ic).or (if Am s||decide (flook g s>0) then some (28,f.re,f.im) else none)).or (Sy g f (pre++ [s]) l)
def Ov(g:Ah):Nat→List Az→Option Ic
 |_,[]=>none
 |i,f::l=>(((if flook g f.name≠i+1 then some (29,f.re,f.im) else none:Option Ic).or (if Am f.name then some (28,f.re,f.im) else none)).or (Sy g f [] f.params)).or (Ov g (i+1) l)
def YN:List Ev:=specials.map fun s=> .use (0,s) false 0 0
def MT:DS:=⟨[],[],[]⟩
def Xe(g:Ah)(st:DS):Option Ox:=(Fq st st.uses (List.replicate st.things.length 0)).bind fun k=>(Cj st k 0 st.uses).bind fun b=>match b with
 |some x=>some (fT x)
 |none=>(Xj st k g).map fun i=>⟨i,0,0,0⟩
def Ns(g:Ah):Option Ox:=match Ov g 0 g.funcs with
 |some x=>some (fT x)
 | none=>match Qw g with
   |some x=>some (fT x)
   |none=>(Ee (YN++MS g) MT).bind (Xe g)
end Go.Proofs.YtkfillfkbhbbjaaGreatDoor
set_option linter.unusedSimpArgs false
set_option linter.unusedVariables false
namespace Go.Proofs.YtkfillfkbhbbjaaGreatDoor
def keys(d:DS):List Ae:=d.things.map (·.t)
theorem Mc{d:DS}{i:Nat}{t:Ae}:(keys d)[i]? =some t↔∃x,d.things[i]? =some x∧x.t=t:=by
 unfold keys;rw [List.getElem?_map,Option.map_eq_some_iff]
theorem Py{t:Ae}:∀{l:List Ea} {i j:Nat},Fi t l i=some j→i≤j∧∃x,l[j -i]? =some x∧x.t=t
 | [],i,j,h=>by cases h
 | x::l,i,j,h=>by
   rw [Fi] at h
   split at h
   ·rename_i he
    cases h
    exact ⟨Nat.le_refl _,x,by simp,(Fw.1 he).symm⟩
   obtain ⟨h1,y,h2,h3⟩:=Py h;refine ⟨by omega,y, ?_,h3⟩;rw [show j -i=(j -(i+1))+1 from by omega];simpa using h2
theorem Pz{t:Ae}:∀{l:List Ea} {i:Nat},Fi t l i=none→t∉l.map (·.t)
 | [],i,h=>by simp
 | x::l,i,h=>by
   rw [Fi] at h
   split at h
   ·cases h
   rename_i he;rw [List.map_cons,List.mem_cons,not_or];exact ⟨fun e=>he (Fw.2 e),Pz h⟩
structure RH (d d':DS) (t:Ae) (i:Nat):Prop where
 key:(keys d')[i]? =some t
 uses:d'.uses=d.uses
 calls:d'.calls=d.calls
 old:d'=d∨(t∉keys d∧d'.things=d.things++ [⟨t,d.things.length⟩])
theorem Gb{d d':DS}{t:Ae}{i:Nat}(h:Um d t=some (i,d')):RH d d' t i:=by
 unfold Um at h
 cases hf:Fi t d.things 0 with
 |some j=>
  rw [hf] at h;cases h;obtain ⟨-,x,h2,h3⟩:=Py hf;exact ⟨Mc.2 ⟨x,h2,h3⟩,rfl,rfl,.inl rfl⟩
 | none=>
  rw [hf] at h;simp only at h
  split at h
  ·cases h
   exact ⟨by simp [keys],rfl,rfl,.inr ⟨Pz hf,rfl⟩⟩
  cases h
theorem Sx(d:DS)(t:Ae)(h:d.things.length<1000000):∃o,Um d t=some o:=by
 unfold Um
 cases Fi t d.things 0 with
 |some j=>exact ⟨_,rfl⟩
 |none=>simp only;rw [if_pos h];exact ⟨_,rfl⟩
theorem RH.len{d d':DS}{t:Ae}{i:Nat}(h:RH d d' t i):d.things.length≤d'.things.length∧d'.things.length≤d.things.length+1:=by
 rcases h.old with rfl|⟨-,e⟩
 ·omega
 rw [e];simp
theorem RH.ks{d d':DS}{t:Ae}{i:Nat}(h:RH d d' t i):keys d'=keys d∨keys d'=keys d++ [t]:=by
 rcases h.old with rfl|⟨-,e⟩
 ·exact .inl rfl
 exact .inr (by simp [keys,e])
theorem RH.at{d d':DS}{t:Ae}{i:Nat}(h:RH d d' t i){j:Nat}{u:Ae}(hj:(keys d)[j]? =some u):(keys d')[j]? =some u:=by
 rcases h.ks with e|e
 ·rw [e];exact hj
 rw [e,List.getElem?_append_left (List.getElem?_eq_some_iff.1 hj).1];exact hj
/-! ### what uses say -/
def Hk(th:List Ae)(h:Bool)(u:Gq):List Kf:=
 if u.how=3 then [⟨u.re,u.im,Gs,false,Gs,false,true⟩]
 else if u.how=1∨u.how=2 then [⟨u.re,u.im,(th[u.thing.toNat]?).getD Gs,decide (u.how=2),Gs,false,false⟩]
 else if h=true then [⟨u.re,u.im,Gs,false,(th[u.thing.toNat]?).getD Gs,true,false⟩]
 else []
def Lm(th:List Ae)(h:Nat→Bool):Nat→List Gq→List Kf
 |_,[]=> []
 |i,u::l=>Hk th (h i) u++Lm th h (i+1) l
theorem Pw{th th':List Ae}{h h':Nat→Bool}:∀{l:List Gq} {i:Nat},(∀u∈l,u.how≠3→u.thing.toNat<th.length)→(∀j,j<th.length→th'[j]? =th[j]?)→(∀j,i≤j→j<i+l.length→h' j=h j)→Lm th' h' i l=Lm th h i l
 | [],i,_,_,_=>rfl
 | u::l,i,hu,ht,hh=>by
   rw [Lm,Lm,Pw (fun v hv=>hu v (List.mem_cons_of_mem _ hv)) ht (fun j h1 h2=>hh j jh (by rw [List.length_cons];omega)),hh i (Nat.le_refl _) (by rw [List.length_cons];omega)]
   congr 1
   unfold Hk
   by_cases h3:u.how=3
   ·rw [if_pos h3,if_pos h3]
   rw [if_neg h3,if_neg h3,ht _ (hu u (List.mem_cons_self ..) h3)]
theorem Tw(th:List Ae)(h:Nat→Bool):∀(l m:List Gq) (i:Nat),Lm th h i (l++m)=Lm th h i l++Lm th h (i+l.length) m
 | [],m,i=>by simp [Lm]
 |u::l,m,i=>by rw [List.cons_append,Lm,Lm,Tw th h l m (i+1),List.append_assoc,List.length_cons,show i+1+l.length=i+(l.length+1) from by omega]
def Yk:List Kf:=specials.map fun s=>⟨0,0,(0,s),false,Gs,false,false⟩
structure Gu (m:NS) (d:DS):Prop where
 wf:Ja m.same
 nodup:(keys d).Nodup
 like:∀(i:Nat) (x:Ea),d.things[i]? =some x→(keys d)[x.like]? =some ((Cf x.t m.same).getD x.t)
 link:∀a b,Cf a m.same=some b→b.1>0∧a∈keys d∧(a.1=0→a∈m.seen)
 seen:∀t:Ae,t.1=0→(t∈keys d↔t∈m.seen∨Am t.2=true)
 calls:∀c∈d.calls,c.atU<d.uses.length
 idx:∀u∈d.uses,0≤u.how∧u.how≤3∧(u.how≠3→u.thing.toNat<d.things.length)
 eff:Lm (keys d) (Bb d) 0 d.uses=Yk++m.uses
 useen:∀u∈m.uses,u.kid=false→u.bad=false→u.of.1=0→u.of∈m.seen
 kidp:∀u∈m.uses,u.kid=true→u.param.1>0
 nd:m.seen.Nodup
theorem Nm(d:DS):(keys d).length=d.things.length:=by simp [keys]
theorem Gu.of{m m':NS}{d d':DS}{t:Ae}{i:Nat}(h:Gu m d)(o:RH d d' t i)(b:m'.same=m.same)(a:m'.uses=m.uses)(hin:∀x∈m.seen,x∈m'.seen)(hs:∀u:Ae,u.1=0→(u∈m'.seen∨Am u.2=true↔(u∈m.seen∨Am u.2=true)∨u=t))(nd:m'.seen.Nodup):Gu m' d':=by
 have hk:t∈keys d':=List.mem_of_getElem? o.key
 have hold:∀j,j<(keys d).length→(keys d')[j]? =(keys d)[j]? :=fun j hj=>by
  rcases o.ks with e|e
  ·rw [e]
  rw [e,List.getElem?_append_left hj]
 have hH:Bb d'=Bb d:=by funext j;simp only [Bb,o.calls]
 have hl:∀x y,Cf x m'.same=some y→y.1>0∧x∈keys d'∧(x.1=0→x∈m'.seen):=fun x y hxy=>by
  rw [b] at hxy;obtain ⟨h1,h2,h3⟩:=h.link x y hxy;refine ⟨h1, ?_,fun q=>hin _ (h3 q)⟩
  rcases o.ks with e|e
  ·rw [e];exact h2
  rw [e];exact List.mem_append_left _ h2
 have hsn:∀u:Ae,u.1=0→(u∈keys d'↔u∈m'.seen∨Am u.2=true):=fun u hu=>by
  rw [hs u hu,←h.seen u hu]
  rcases o.old with e|⟨hn,e⟩
  ·rw [e] at hk⊢;exact ⟨.inl,fun q=>q.elim id fun q=>q▸hk⟩
  simp [keys,e]
 refine ⟨by rw [b];exact h.wf, ?_,fun j x hx=> ?_,hl,hsn,by rw [o.calls,o.uses];exact h.calls,by rw [o.uses];exact fun u hu=>⟨(h.idx u hu).1,(h.idx u hu).2.1,fun k=>Nat.lt_of_lt_of_le ((h.idx u hu).2.2 k) o.len.1⟩, ?_,by rw [a];exact fun u hu h1 h2 h3=>hin _ (h.useen u hu h1 h2 h3),by rw [a];exact h.kidp,nd⟩
 ·rcases o.old with e|⟨hn,e⟩
  ·rw [e];exact h.nodup
  rw [show keys d'=keys d++ [t] by simp [keys,e],List.nodup_append];exact ⟨h.nodup,by simp,fun a ha b hb=>by simp at hb;subst hb;rintro rfl;exact hn ha⟩
 ·rw [b]
  rcases o.old with e|⟨hn,e⟩
  ·rw [e] at hx⊢;exact h.like j x hx
  have ek:keys d'=keys d++ [t]:=by simp [keys,e]
  rw [e] at hx
  by_cases hj:j<d.things.length
  ·rw [List.getElem?_append_left hj] at hx;have:=h.like j x hx;rw [hold _ (List.getElem?_eq_some_iff.1 this).1];exact this
  rw [List.getElem?_append_right jh] at hx
  obtain ⟨h0,rfl⟩:j -d.things.length=0∧x=⟨t,d.things.length⟩:=by
   cases hk:j -d.things.length with
   |zero=>rw [hk] at hx;simp at hx;exact ⟨rfl,hx.symm⟩
   |succ k=>rw [hk] at hx;simp at hx
  have hno:Cf t m.same=none:=by
   cases ha:Cf t m.same with
   |none=>rfl
   |some b=>exact absurd (h.link _ _ ha).2.1 hn
  rw [hno,ek];simp [keys]
 rw [o.uses,hH,a,←h.eff];exact Pw (fun u hu k=>by rw [Nm];exact (h.idx u hu).2.2 k) hold (fun _ _ _=>rfl)
theorem Gu.par{m:NS}{d d':DS}{t:Ae}{i:Nat}(h:Gu m d)(o:RH d d' t i)(h0:t.1>0):Gu m d':=
 h.of o rfl rfl (fun _ h=>h) (fun u hu=>⟨.inl,fun q=>q.elim id fun q=>by subst q;omega⟩) h.nd
theorem Gu.name{m:NS}{d d':DS}{t:Ae}{i:Nat}(h:Gu m d)(o:RH d d' t i):Gu (Bp m t) d'∧(t.1=0→t∈(Bp m t).seen):=by
 obtain ⟨a,b,c,k⟩:=KS m t;refine ⟨h.of o b a (fun x hx=>(c x).2 (.inl hx)) (fun u hu=> ?_) (k h.nd),fun h0=>(c t).2 (.inr (by rw [if_pos h0];simp))⟩;rw [c]
 by_cases h0:t.1=0
 ·rw [if_pos h0];simp only [List.mem_singleton]
  constructor
  ·rintro ((h|h)|h)
   ·exact .inl (.inl h)
   ·exact .inr h
   exact .inl (.inr h)
  rintro ((h|h)|h)
  ·exact .inl (.inl h)
  ·exact .inr h
  exact .inl (.inr h)
 rw [if_neg h0]
 constructor
 ·rintro ((h|h)|h)
  ·exact .inl (.inl h)
  ·simp at h
  exact .inl (.inr h)
 rintro ((h|h)|h)
 ·exact .inl (.inl h)
 ·exact .inr h
 subst h;exact absurd hu h0
theorem Gu.use{m m':NS}{d d':DS}{u:Gq}(h:Gu m d)(hu:0≤u.how∧u.how≤3∧(u.how≠3→u.thing.toNat<d.things.length))(e1:d'.things=d.things)(e2:d'.uses=d.uses++ [u])(e3:d'.calls=d.calls∨∃c,d'.calls=d.calls++ [c]∧c.atU=d.uses.length)(f1:m'.same=m.same)(f2:m'.seen=m.seen)(f3:m'.uses=m.uses++Hk (keys d) (Bb d' d.uses.length) u)(g1:∀v∈Hk (keys d) (Bb d' d.uses.length) u,(v.kid=false→v.bad=false→v.of.1=0→v.of∈m.seen)∧(v.kid=true→v.param.1>0)):Gu m' d':=by
 have ek:keys d'=keys d:=by simp [keys,e1]
 have hlt:∀c∈d'.calls,c.atU<d.uses.length+1:=by
  rcases e3 with e|⟨c,e,hc⟩
  ·rw [e];exact fun c hc=>Nat.lt_succ_of_lt (h.calls c hc)
  rw [e];intro x hx
  rcases List.mem_append.1 hx with hx|hx
  ·exact Nat.lt_succ_of_lt (h.calls x hx)
  simp at hx;subst hx;omega
 refine ⟨by rw [f1];exact h.wf,by rw [ek];exact h.nodup,by rw [e1,ek,f1];exact h.like,by rw [f1,ek,f2];exact h.link,by rw [ek,f2];exact h.seen,by rw [e2];simpa using hlt, ?_, ?_, ?_, ?_,by rw [f2];exact h.nd⟩
 ·rw [e2,e1];intro v hv
  rcases List.mem_append.1 hv with hv|hv
  ·exact h.idx v hv
  simp at hv;subst hv;exact hu
 ·rw [e2,ek,f3,Tw,Nat.zero_add,←List.append_assoc,←h.eff]
  congr 1
  ·refine Pw (fun u hu k=>by rw [Nm];exact (h.idx u hu).2.2 k) (fun _ _=>rfl) (fun j _ hj=> ?_)
   rcases e3 with e|⟨c,e,hc⟩
   ·simp only [Bb,e]
   have hj':j<d.uses.length:=by omega
   have hcj:(c.atU==j)=false:=beq_false_of_ne jh;simp only [Bb,e,List.any_append,List.any_cons,List.any_nil,hcj,Bool.or_false]
  simp [Lm]
 ·rw [f3,f2];intro v hv
  rcases List.mem_append.1 hv with hv|hv
  ·exact h.useen v hv
  exact (g1 v hv).1
 rw [f3];intro v hv
 rcases List.mem_append.1 hv with hv|hv
 ·exact h.kidp v hv
 exact (g1 v hv).2
end Go.Proofs.YtkfillfkbhbbjaaGreatDoor
set_option linter.unusedSimpArgs false
set_option linter.unusedVariables false
namespace Go.Proofs.YtkfillfkbhbbjaaGreatDoor
theorem Xo{m:Ew}{t:Ae}(h:Cf t m=some t):∀f,Dw m f t=none
 |0=>rfl
 |f+1=>by rw [Dw,h];exact Xo h f
theorem Yr{m:Ew}(hm:∀a b,Cf a m=some b→b.1>0):∀{f:Nat} {t r:Ae},Dw m f t=some r→r.1=0→r=t
 |0,t,r,h,_=>by cases h
 | f+1,t,r,h,h0=>by
   rw [Dw] at h
   cases ha:Cf t m with
   |none=>rw [ha] at h;cases h;rfl
   |some u=>
    rw [ha] at h;have:=Yr hm h h0;subst this;exact absurd (hm _ _ ha) jh
theorem Gu.rt0{m:NS}{d:DS}(h:Gu m d){t:Ae}(h0:(rt m.same t).1=0):rt m.same t=t:=Yr (fun a b hab=>(h.link a b hab).1) (h.wf.root t) h0
theorem BA{α:Type}{l:List α}(h:l.Nodup){i j:Nat}{x:α}(hi:l[i]? =some x)(hj:l[j]? =some x):i=j:=by
 obtain ⟨hi1,hi2⟩:=List.getElem?_eq_some_iff.1 hi;obtain ⟨hj1,hj2⟩:=List.getElem?_eq_some_iff.1 hj
 rcases Nat.lt_trichotomy i j with hij|hij|hij
 ·exact absurd (hi2.trans hj2.symm) (List.pairwise_iff_getElem.1 h i j hi1 hj1 hij)
 ·exact hij
 exact absurd (hj2.trans hi2.symm) (List.pairwise_iff_getElem.1 h j i hj1 hi1 hij)
theorem Gu.root'{m:NS}{d:DS}(h:Gu m d):∀{f:Nat} {t r:Ae},Dw m.same f t=some r→∀{i:Nat},(keys d)[i]? =some t→∃j,Jy d.things f i=some j∧(keys d)[j]? =some r
 |0,t,r,hr,i,hi=>by cases hr
 | f +1,t,r,hr,i,hi=>by
   obtain ⟨x,hx,rfl⟩:=Mc.1 hi;have hl:=h.like i x hx;rw [Jy,hx];simp only
   cases ha:Cf x.t m.same with
   |none=>
    rw [Dw,ha] at hr;cases hr;rw [ha] at hl;rw [if_pos (BA h.nodup hl hi)];exact ⟨i,rfl,hi⟩
   | some u=>
    have hne:¬x.like=i:=fun e=>by
     rw [ha,e,hi] at hl;simp at hl;rw [←hl] at ha;rw [Xo ha] at hr;cases hr
    rw [Dw,ha] at hr;rw [ha] at hl;rw [if_neg hne];exact Gu.root' h hr hl
theorem Tx{l:List Ea}:∀{f k i j:Nat},Jy l f i=some j→f≤k→Jy l k i=some j
 |0,k,i,j,h,_=>by cases h
 |f+1,0,i,j,h,hk=>by omega
 | f+1,k+1,i,j,h,hk=>by
   rw [Jy] at h⊢
   cases hx:l[i]? with
   |none=>rw [hx] at h;cases h
   |some x=>
    rw [hx] at h;simp only at h⊢
    split
    ·rename_i e;rw [if_pos e] at h;exact h
    rename_i e;rw [if_neg e] at h;exact Tx h jh
theorem Gu.root{m:NS}{d:DS}(h:Gu m d)(hs:m.same.length<900000){t:Ae}{i:Nat}(hi:(keys d)[i]? =some t):∃j,Jb d i=some j∧(keys d)[j]? =some (rt m.same t):=by
 obtain ⟨j,h1,h2⟩:=Gu.root' h (h.wf.root t) hi;exact ⟨j,Tx h1 jh,h2⟩
theorem Gu.unite{m:NS}{d:DS}(h:Gu m d){a p:Ae}{x y:Nat}(hx:(keys d)[x]? =some (rt m.same a))(hy:(keys d)[y]? =some (rt m.same p))(hp:p.1>0)(ha:a.1=0→a∈m.seen):Gu {m with same:=Kn m.same a p} (Ir d x y):=by
 have ek:keys (Ir d x y)=keys d:=by
  simp only [keys,Ir];apply List.ext_getElem?;intro i;rw [List.getElem?_map,List.getElem?_map,List.getElem?_modify]
  cases d.things[i]? with
  |none=>rfl
  |some z=>simp;split<;>rfl
 have hpos:∀a b,Cf a m.same=some b→b.1>0:=fun a b hab=>(h.link a b hab).1
 have hln:(Ir d x y).things.length=d.things.length:=by simp [Ir]
 have hH:Bb (Ir d x y)=Bb d:=rfl;refine ⟨h.wf.link a p,by rw [ek];exact h.nodup,fun i z hz=> ?_,fun u v huv=> ?_,by rw [ek];exact h.seen,h.calls,by rw [hln];exact h.idx,by rw [ek,hH];exact h.eff,h.useen,h.kidp,h.nd⟩
 ·rw [ek];simp only [Ir,List.getElem?_modify] at hz
  cases hi:d.things[i]? with
  |none=>rw [hi] at hz;simp at hz
  | some w=>
   rw [hi] at hz;have hl:=h.like i w hi;have hki:(keys d)[i]? =some w.t:=Mc.2 ⟨w,hi,rfl⟩
   by_cases hxi:x=i
   ·subst hxi;simp at hz;subst hz;simp only;have ew:w.t=rt m.same a:=by rw [hx] at hki;simpa using hki.symm
    rw [ew,hy];unfold Kn
    split
    ·rename_i e;rw [h.wf.look];simp [e]
    rw [Fd,h.wf.look,if_pos rfl];rfl
   simp [hxi] at hz;subst hz;have ew:w.t≠rt m.same a:=fun e=>hxi (BA h.nodup (by rw [hx]) (by rw [hki,e]))
   rw [hl];unfold Kn
   split
   ·rfl
   rw [Fd]
   cases Cf w.t m.same with
   |some u=>rfl
   |none=>simp [ew]
 simp only at huv;rw [ek];unfold Kn at huv
 split at huv
 ·exact h.link u v huv
 rw [Fd] at huv
 cases hu:Cf u m.same with
 |some b=>rw [hu] at huv;cases huv;exact h.link u _ hu
 | none=>
  rw [hu] at huv;simp only at huv
  split at huv
  ·rename_i e;simp at huv;subst huv;subst e;refine ⟨?_,List.mem_of_getElem? hx,fun h0=> ?_⟩
   ·cases hq:(rt m.same p).1 with
    |zero=>have:=h.rt0 hq;rw [this] at hq;omega
    |succ n=>omega
   have:=h.rt0 h0;rw [this] at h0⊢;exact ha h0
  cases huv
def BR:Ev→Prop
 | .kid p _ _=>p.1>0
 | .link _ p _ _=>p.1>0
 | .reg t=>t.1>0
 |_=>True
theorem Rd{d:DS}(u:Gq)(h:d.uses.length<1000000):Jx d u=some {d with uses:=d.uses++ [u]}:=if_pos h
theorem Sr{d:DS}{i:Nat}{t:Ae}(h:(keys d)[i]? =some t):i<d.things.length:=by rw [←Nm];exact (List.getElem?_eq_some_iff.1 h).1
theorem Gu.ev{m m':NS}{d:DS}{e:Ev}(h:Gu m d)(he:BR e)(hm:BU m e=some m')(h1:d.things.length+2<1000000)(h2:d.uses.length<1000000)(h3:m.same.length<800000):∃d',It d e=some d'∧Gu m' d'∧d'.things.length≤d.things.length+2∧d'.uses.length≤d.uses.length+1∧m'.same.length≤m.same.length+1:=by
 have mkU:∀{t:Ae} {k:Nat} {d1:DS},(keys d1)[k]? =some t→((keys d1)[(k:Int).toNat]?).getD Gs=t:=fun h=>by rw [Int.toNat_natCast,h];rfl
 have nh:∀(d0:DS),(∀c∈d0.calls,c.atU<d0.uses.length)→Bb d0 d0.uses.length=false:=fun d0 hc=>by
  simp only [Bb,List.any_eq_false,beq_iff_eq];exact fun c hcm=>by have:=hc c hcm;omega
 cases e with
 |see t re im=>
  cases hm
  obtain ⟨⟨i,d1⟩,ho⟩:=Sx d t jh;have o:=Gb ho;have hs:=(h.name o).1;have hl:=o.len;refine ⟨_,by rw [It,ho];exact Rd _ (by rw [o.uses];exact h2), ?_,by show d1.things.length≤_;omega,by simp [o.uses],by rw [Hq];omega⟩;have hn:Bb d1 d1.uses.length=false:=nh d1 hs.calls;refine hs.use (u:=⟨i,0,re,im⟩) (d':={d1 with uses:=d1.uses++ [⟨i,0,re,im⟩]}) ⟨by simp,by simp,fun _=>Sr o.key⟩ rfl rfl (.inl rfl) rfl rfl ?_ ?_
  ·show _=_++Hk _ (Bb d1 _) _;rw [hn];simp [Hk]
  show ∀v∈Hk _ (Bb d1 _) _,_;rw [hn];simp [Hk]
 | use t arr re im=>
  obtain ⟨u1,u2,u3⟩:=AE hm;obtain ⟨⟨i,d1⟩,ho⟩:=Sx d t jh;have o:=Gb ho;obtain ⟨hs,hse⟩:=h.name o;have hl:=o.len;refine ⟨_,by rw [It,ho];exact Rd _ (by rw [o.uses];exact h2), ?_,by show d1.things.length≤_;omega,by simp [o.uses],by rw [u2,Hq];omega⟩
  have ef:∀b,Hk (keys d1) b ⟨i,if arr then 2 else 1,re,im⟩= [⟨re,im,t,arr,Gs,false,false⟩]:=fun b=>by
   unfold Hk;have:=o.key;cases arr<;>simp [this]
  refine hs.use (u:=⟨i,if arr then 2 else 1,re,im⟩) (d':={d1 with uses:=d1.uses++ [⟨i,if arr then 2 else 1,re,im⟩]}) ⟨by cases arr<;>simp,by cases arr<;>simp,fun _=>Sr o.key⟩ rfl rfl (.inl rfl) u2 u3 ?_ ?_
  ·rw [ef,u1]
  rw [ef];intro v hv;simp at hv;subst hv;exact ⟨fun _ _ q=>hse q,fun q=>(nomatch q)⟩
 | kid p re im=>
  obtain ⟨u1,u2,u3⟩:=AE hm;obtain ⟨⟨i,d1⟩,ho⟩:=Sx d p jh;have o:=Gb ho;have hs:=h.par o he;have hl:=o.len;refine ⟨_,by rw [It,ho];exact Rd _ (by rw [show ({d1 with calls:=d1.calls++ [(⟨i,d1.uses.length,re,im⟩:Xs)]}:DS).uses=d1.uses from rfl,o.uses];exact h2), ?_,by show d1.things.length≤_;omega,by simp [o.uses],by rw [u2];omega⟩
  have ef:Hk (keys d1) (Bb {d1 with calls:=d1.calls++ [⟨i,d1.uses.length,re,im⟩],uses:=d1.uses++ [⟨i,0,re,im⟩]} d1.uses.length) ⟨i,0,re,im⟩= [⟨re,im,Gs,false,p,true,false⟩]:=by
   have:Bb {d1 with calls:=d1.calls++ [⟨i,d1.uses.length,re,im⟩],uses:=d1.uses++ [⟨i,0,re,im⟩]} d1.uses.length=true:=by simp [Bb]
   rw [this];simp [Hk,o.key]
  refine hs.use (u:=⟨i,0,re,im⟩) (d':={d1 with calls:=d1.calls++ [⟨i,d1.uses.length,re,im⟩],uses:=d1.uses++ [⟨i,0,re,im⟩]}) ⟨by simp,by simp,fun _=>Sr o.key⟩ rfl rfl (.inr ⟨_,rfl,rfl⟩) u2 u3 ?_ ?_
  ·rw [ef,u1]
  rw [ef];intro v hv;simp at hv;subst hv;exact ⟨fun q=>(nomatch q),fun _=>he⟩
 |bad re im=>
  obtain ⟨u1,u2,u3⟩:=AE hm;refine ⟨_,Rd _ h2, ?_,by show d.things.length≤_;omega,by simp,by rw [u2];omega⟩;refine h.use (u:=⟨-1,3,re,im⟩) (d':={d with uses:=d.uses++ [⟨-1,3,re,im⟩]}) ⟨by simp,by simp,fun q=>absurd rfl q⟩ rfl rfl (.inl rfl) u2 u3 ?_ ?_
  ·rw [u1];simp [Hk]
  intro v hv;simp [Hk] at hv;subst hv;exact ⟨fun _ q=>(nomatch q),fun q=>(nomatch q)⟩
 | link a p re im=>
  rw [UF h.wf] at hm
  cases hm
  obtain ⟨⟨q,d1⟩,hq⟩:=Sx d p jh;have oq:=Gb hq;have hs1:=h.par oq he;have hl1:=oq.len;obtain ⟨⟨i,d2⟩,ho⟩:=Sx d1 a jh;have o:=Gb ho;obtain ⟨hs2,hse⟩:=hs1.name o;have hl2:=o.len;have hu2:d2.uses=d.uses:=o.uses.trans oq.uses;have hn:Bb d2 d2.uses.length=false:=nh d2 hs2.calls
  have hs3:Gu (Bp m a) {d2 with uses:=d2.uses++ [⟨i,0,re,im⟩]}:=by
   refine hs2.use (u:=⟨i,0,re,im⟩) ⟨by simp,by simp,fun _=>Sr o.key⟩ rfl rfl (.inl rfl) rfl rfl ?_ ?_
   ·show _=_++Hk _ (Bb d2 _) _;rw [hn];simp [Hk]
   show ∀v∈Hk _ (Bb d2 _) _,_;rw [hn];simp [Hk]
  have hsl:(Bp m a).same.length<900000:=by rw [Hq];omega
  obtain ⟨x,hx1,hx2⟩:=hs3.root hsl (t:=a) (i:=i) o.key;obtain ⟨y,hy1,hy2⟩:=hs3.root hsl (t:=p) (i:=q) (o.at oq.key)
  refine ⟨_,by
   rw [It,hq,Option.bind_some,ho,Option.bind_some,Rd _ (by rw [hu2];exact h2),Option.bind_some,hx1,Option.bind_some,hy1,Option.bind_some], ?_, ?_, ?_, ?_⟩
  ·have:=hs3.unite hx2 hy2 he hse;rw [Hq] at this;exact this
  ·simp only [Ir,List.length_modify];omega
  ·simp [Ir,hu2]
  show (Kn _ _ _).length≤_;unfold Kn;split<;>simp
 |reg t=>
  cases hm
  obtain ⟨⟨i,d1⟩,ho⟩:=Sx d t jh;have o:=Gb ho;have hl:=o.len;exact ⟨d1,by rw [It,ho];rfl,h.par o he,by omega,by rw [o.uses];omega,by omega⟩
theorem Kc(st:DS):Ee [] st=some st:=rfl
theorem Do(x:Ev)(l:List Ev)(st:DS):Ee (x::l) st=(It st x).bind (Ee l):=by simp only [Ee,List.foldlM_cons];rfl
theorem Cl(a b:List Ev)(st:DS):Ee (a++b) st=(Ee a st).bind (Ee b):=by simp only [Ee,List.foldlM_append];rfl
theorem Gu.evs:∀{l:List Ev} {m m':NS} {d:DS},Gu m d→(∀e∈l,BR e)→evs l m=some m'→d.things.length+2*l.length+2<1000000→d.uses.length+l.length<1000000→m.same.length+l.length<800000→
  ∃d',Ee l d=some d'∧Gu m' d'∧m'.same.length<900000
 | [],m,m',d,h,_,hm,_,_,h3=>by cases hm;exact ⟨d,rfl,h,by simp only [List.length_nil] at h3;omega⟩
 | e::l,m,m',d,h,ho,hm,h1,h2,h3=>by
   rw [Hi] at hm
   cases hn:BU m e with
   |none=>rw [hn] at hm;cases hm
   |some m1=>
    rw [hn] at hm;rw [List.length_cons] at h1 h2 h3;obtain ⟨d1,k1,k2,k3,k4,k5⟩:=h.ev (ho e (List.mem_cons_self ..)) hn jh jh jh;obtain ⟨d',g1,g2⟩:=Gu.evs k2 (fun x hx=>ho x (List.mem_cons_of_mem _ hx)) hm jh jh jh;exact ⟨d',by rw [Do,k1];exact g1,g2⟩
end Go.Proofs.YtkfillfkbhbbjaaGreatDoor
