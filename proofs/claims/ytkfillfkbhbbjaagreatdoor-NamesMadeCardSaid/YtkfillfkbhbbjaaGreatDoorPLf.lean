/- PLc, DS0, PLd, PLe, PLf. -/
import Derived.Test.YtkfillfkbhbbjaaGreatDoorPLb
set_option maxRecDepth 100000
set_option maxHeartbeats 4000000
set_option linter.unusedSimpArgs false
set_option linter.unusedVariables false
namespace Go.Proofs.YtkfillfkbhbbjaaGreatDoor
def evs(l:List Ev)(st:NS):Option NS:=l.foldlM BU st
theorem Hi(x:Ev)(l:List Ev)(st:NS):evs (x::l) st=(BU st x).bind (evs l):=by simp only [evs,List.foldlM_cons];rfl
theorem Jw(a b:List Ev)(st:NS):evs (a++b) st=(evs a st).bind (evs b):=by simp only [evs,List.foldlM_append];rfl
theorem Ra(x:Ev)(st:NS):evs [x] st=BU st x:=by rw [Hi];cases BU st x<;>rfl
theorem Option.or_eq_none'{α:Type}{a b:Option α}(h:a.or b=none):a=none∧b=none:=by cases a<;>simp_all [Option.or]
def Kh(st:NS)(l:Int):NS:={st with loops:=l}
theorem Sl(l:Int)(st:NS)(t:Ae):Bp (Kh st l) t=Kh (Bp st t) l:=by unfold Bp;split<;>rfl
theorem Rt(l:Int)(st:NS)(u:Kf):Hp (Kh st l) u=(Hp st u).map (Kh · l):=by
 show (if st.uses.length<400000 then some (Kh {st with uses:=st.uses++ [u]} l) else none)=(if st.uses.length<400000 then some {st with uses:=st.uses++ [u]} else none).map (Kh · l)
 split<;>rfl
theorem OP(l:Int)(x:Ev)(st:NS):BU (Kh st l) x=(BU st x).map (Kh · l):=by
 cases x with
 |see t re im=>exact congrArg some (Sl l st t)
 |use t arr re im=>
  show Hp (Bp (Kh st l) t) _=(Hp (Bp st t) _).map _;rw [Sl,Rt]
 |kid p re im=>exact Rt l st _
 |bad re im=>exact Rt l st _
 |link a p re im=>
  show (Dl (Bp (Kh st l) a) a).bind (fun ra=>(Dl (Bp (Kh st l) a) p).bind fun rb=>some (if Oq ra rb then Bp (Kh st l) a else {Bp (Kh st l) a with same:=(Bp (Kh st l) a).same++ [(ra,rb)]}))=_;rw [Sl];show (Dl (Bp st a) a).bind (fun ra=>(Dl (Bp st a) p).bind fun rb=>some (if Oq ra rb then Kh (Bp st a) l else {Kh (Bp st a) l with same:=(Bp st a).same++ [(ra,rb)]}))=((Dl (Bp st a) a).bind fun ra=>(Dl (Bp st a) p).bind fun rb=>some (if Oq ra rb then Bp st a else {Bp st a with same:=(Bp st a).same++ [(ra,rb)]})).map (Kh · l);exact joe
 |reg t=>rfl
theorem Xb(l:Int):∀(x:List Ev) (st:NS),evs x (Kh st l)=(evs x st).map (Kh · l)
 | [],st=>rfl
 | x::xs,st=>by
   rw [Hi,Hi,OP]
   cases BU st x with
   |none=>rfl
   |some s=>exact Xb l xs s
theorem Nb(g:Ah)(st:NS)(name:ByteArray):Iv g st name=(Du g st.fn name,Bp st (Du g st.fn name)):=by
 unfold Iv Du Bp
 by_cases h:st.fn>0∧Dn name (Bk g st.fn)=true
 ·rw [if_pos h,if_pos h,if_neg (show ¬(st.fn,name).1=0 by have:=h.1;simp only;omega)]
 rw [if_neg h,if_neg h,if_pos rfl]
theorem Ng{g:Ah}{st:NS}{n:Af}(h:(if flook g n.name>0 then some (28,n.re,n.im) else none:Option Ic)=none):Bi g st n=st:=by
 unfold Bi;split
 ·rename_i h0;rw [if_pos h0] at h;cases h
 rfl
theorem UV{lp:Bool}{i:Nat}{st:NS}{k:Af}(h:Pu lp i k=none):Qv lp i st k=st:=by
 unfold Pu at h;unfold Qv
 split
 ·rename_i h0;rw [if_pos h0] at h;cases h
 rfl
def ES(g:Ah)(rec:Cu):Prop:=∀n st st',Yg n→rec st n=some st'→Dg g st.fn st.rule st.loops n=none→evs (Xd g st.fn n) st=some st'
theorem Qr{g:Ah}{rec:Cu}(hf:Tg g rec)(hr:ES g rec)(lp:Bool):∀(l:List Af) (i:Nat) (st st':NS),Oy l→Ga rec lp i l st=some st'→Cg g st.fn st.rule st.loops lp i l=none→evs (Nq g st.fn l) st=some st'
 | [],i,st,st',_,h,_=>by
   rw [Ga] at h;cases h;rw [Nq];rfl
 | k::l,i,st,st',hw,h,h0=>by
   rw [Oy] at hw;rw [Cg] at h0;obtain ⟨h1,h2⟩:=Option.or_eq_none' h0;obtain ⟨h3,h4⟩:=Option.or_eq_none' h1;simp only [Ga,Option.bind_eq_bind,Option.bind_eq_some_iff] at h;obtain ⟨s1,h5,h6⟩:=h;rw [UV h3] at h5;have c1:=hf k _ _ hw.1 h5;have e1:=hr k _ _ hw.1 h5 h4;rw [←c1.1.1,←c1.1.2.1,←c1.1.2.2] at h2;have e2:=Qr hf hr lp l _ _ _ hw.2 h6 h2;rw [c1.1.1] at e2;rw [Nq,Jw,e1];exact e2
theorem Xl{g:Ah}{rec:Cu}(hf:Tg g rec)(hr:ES g rec)(f:Nat):∀(l:List Af) (ps:List ByteArray) (i:Nat) (st st':NS),Oy l→Gh g rec f ps l st=some st'→Cg g st.fn st.rule st.loops false i l=none→evs (Zl g st.fn f ps l) st=some st'
 | [],ps,i,st,st',_,h,_=>by
   rw [Gh] at h;cases h;rw [Zl];rfl
 |k::l,[],i,st,st',hw,h,_=>by rw [Gh] at h;cases h
 | k ::l,p::ps,i,st,st',hw,h,h0=>by
   rw [Oy] at hw;rw [Cg,Mh] at h0;obtain ⟨h1,h2⟩:=Option.or_eq_none' h0;replace h1:Dg g st.fn st.rule st.loops k=none:=h1;rw [Gh] at h;rw [Zl,Jw]
   by_cases h4:k.kind=4
   ·rw [if_neg (by simp [h4])] at h;rw [Ll hw.1 h4] at h1;simp only [Ng h1,Nb,Option.bind_eq_bind,Option.bind_eq_some_iff] at h;obtain ⟨ra,hra,rb,hrb,h⟩:=h;rw [if_pos h4,Ra]
    have hn:BU st (.link (Du g st.fn k.name) (f,p) k.re k.im)=some (if Oq ra rb then Bp st (Du g st.fn k.name) else {Bp st (Du g st.fn k.name) with same:=(Bp st (Du g st.fn k.name)).same++ [(ra,rb)]}):=by
     simp only [BU,hra,hrb,Option.bind_some]
    rw [hn]
    have c0:Dj st (Bp st (Du g st.fn k.name)) none:=by
     unfold Bp;split
     ·exact EE _ _
     exact NX
    have c1:Dj st (if Oq ra rb then Bp st (Du g st.fn k.name) else {Bp st (Du g st.fn k.name) with same:=(Bp st (Du g st.fn k.name)).same++ [(ra,rb)]}) none:=by
     split
     ·exact c0
     exact c0.trans0 (Zv rfl)
    rw [←c1.1.1,←c1.1.2.1,←c1.1.2.2] at h2;have e2:=Xl hf hr f l ps (i+1) _ _ hw.2 h h2;rw [c1.1.1] at e2;exact e2
   rw [if_pos h4] at h;simp only [Option.bind_eq_bind,Option.bind_eq_some_iff] at h;obtain ⟨s1,h5,s2,h6,h⟩:=h;have c1:=Lp h5;rw [←c1.1.1,←c1.1.2.1,←c1.1.2.2] at h1;have c2:=hf k _ _ hw.1 h6;have e1:=hr k _ _ hw.1 h6 h1;have c3:=c1.trans c2;rw [←c3.1.1,←c3.1.2.1,←c3.1.2.2] at h2;have e2:=Xl hf hr f l ps (i+1) _ _ hw.2 h h2;rw [c3.1.1] at e2;rw [c1.1.1] at e1;have hn:BU st (.kid (f,p) k.re k.im)=some s1:=h5;rw [if_neg h4,Hi,hn,Option.bind_some,e1];exact e2
theorem VP{g:Ah}{rec:Cu}(hr:ES g rec){st st':NS}{k:Af}(hw:Yg k)(h:GR g rec st k=some st')(h0:Dg g st.fn st.rule st.loops k=none):evs (if k.kind=4 then [.use (Du g st.fn k.name) true k.re k.im] else .bad k.re k.im::Xd g st.fn k) st=some st':=by
 unfold GR at h
 split at h
 ·rename_i h4;rw [Ll hw h4] at h0;rw [Ng h0,Nb] at h;rw [if_pos h4,Ra];exact h
 rename_i h4;simp only [Option.bind_eq_bind,Option.bind_eq_some_iff] at h;obtain ⟨s1,h1,h2⟩:=h;have c1:=Lp h1;rw [←c1.1.1,←c1.1.2.1,←c1.1.2.2] at h0;have e1:=hr k _ _ hw h2 h0;rw [c1.1.1] at e1;have hn:BU st (.bad k.re k.im)=some s1:=h1;rw [if_neg h4,Hi,hn];exact e1
theorem Ux{g:Ah}{rec:Cu}(hf:Tg g rec)(hr:ES g rec)(arr:Int):∀(l:List Af) (i:Nat) (st st':NS),Oy l→Nw g rec arr i l st=some st'→Cg g st.fn st.rule st.loops false i l=none→evs (Xt g st.fn arr i l) st=some st'
 | [],i,st,st',_,h,_=>by
   rw [Nw] at h;cases h;rw [Xt];rfl
 | k::l,i,st,st',hw,h,h0=>by
   rw [Oy] at hw;rw [Cg,Mh] at h0;obtain ⟨h1,h2⟩:=Option.or_eq_none' h0;replace h1:Dg g st.fn st.rule st.loops k=none:=h1;simp only [Nw,Option.bind_eq_bind,Option.bind_eq_some_iff] at h;obtain ⟨s1,h3,h4⟩:=h
   have c1:Dj st s1 (Dg g st.fn st.rule st.loops k):=by
    split at h3
    ·exact EO hf hw.1 h3
    exact hf k _ _ hw.1 h3
   have e1:evs (if (i:Int)=arr then (if k.kind=4 then [.use (Du g st.fn k.name) true k.re k.im] else .bad k.re k.im::Xd g st.fn k) else Xd g st.fn k) st=some s1:=by
    split at h3
    ·rename_i hi;rw [if_pos hi];exact VP hr hw.1 h3 h1
    rename_i hi;rw [if_neg hi];exact hr k _ _ hw.1 h3 h1
   rw [←c1.1.1,←c1.1.2.1,←c1.1.2.2] at h2;have e2:=Ux hf hr arr l (i+1) _ _ hw.2 h4 h2;rw [c1.1.1] at e2;rw [Xt,Jw,e1];exact e2
theorem SH{nm:ByteArray}{st:NS}{kids:List Af}(h:Qe nm kids=none):Ih nm st kids=st:=by
 match kids with
 | []=>rfl
 | [_]=>rfl
 | [_,_]=>rfl
 | [a,b,k]=>
  rw [Qe] at h;rw [Ih]
  split
  ·rename_i h0;rw [if_pos h0] at h;cases h
  rfl
 |_::_::_::_::_=>rfl
theorem VB(g:Ah)(fn:Nat)(kd lo:Int)(nm:ByteArray)(kids:List Af)(re im:Nat):Iq g fn kd lo 20 nm kids re im=if kids.length<(Bz nm).1∨(Bz nm).2<kids.length then (some (31,re,im):Option Ic) else Qe nm kids:=rfl
theorem MF{g:Ah}{rec:Cu}(hf:Tg g rec)(hr:ES g rec){st st':NS}{nm:ByteArray}{kids:List Af}{re im:Nat}(hw:Oy kids)(h:Ml g rec st nm kids re im=some st')(h0:(Iq g st.fn st.rule st.loops 20 nm kids re im).or (Cg g st.fn st.rule st.loops false 0 kids)=none):evs (if Xz nm kids=true then LI g st.fn kids else Xt g st.fn (Gi nm) 0 kids) st=some st':=by
 obtain ⟨h1,h2⟩:=Option.or_eq_none' h0;rw [VB] at h1;unfold Ml at h
 split at h
 ·rename_i hc;rw [if_pos hc] at h1;cases h1
 rename_i hc;rw [if_neg hc] at h1;rw [SH h1] at h
 match kids,hw,h,h2 with
 | [k],hw,h,h2=>
  rw [DD] at h
  by_cases h4:nm=Hf∧k.kind=4
  ·rw [if_pos h4] at h
   cases h
   rw [Oy] at hw;rw [Cg,Mh] at h2;have h3:Dg g st.fn st.rule st.loops k=none:=(Option.or_eq_none' h2).1;rw [Ll hw.1 h4.2] at h3;rw [Ng h3,Nb,if_pos (by simp [Xz,h4]),LI,Ra]
   rfl
  rw [if_neg h4] at h;rw [if_neg (by simpa [Xz] using h4)];exact Ux hf hr _ _ _ _ _ hw h h2
 | [],hw,h,h2=>exact Ux hf hr _ _ _ _ _ hw h h2
 |_::_::_,hw,h,h2=>exact Ux hf hr _ _ _ _ _ hw h h2
theorem TG{g:Ah}{st st':NS}{k:Int}{nm:ByteArray}{x:Nat}{kids:List Af}{re im:Nat}(h19:k≠19)(h20:k≠20)(h:Uj g st (.mk k nm x kids re im)=some st')(h0:Iq g st.fn st.rule st.loops k nm kids re im=none):evs (AM g st.fn k nm re im) st=some st':=by
 rw [Km] at h;unfold Iq at h0;unfold AM
 split at h
 ·rename_i h4;rw [if_pos (by simp [Me,h4])] at h0;rw [Ng h0,Nb] at h;rw [if_pos h4,Ra];exact h
 rename_i h4;rw [if_neg h4]
 split at h
 ·rename_i h5;rw [if_pos zdb] at h0;rw [Ng h0,Nb] at h;rw [if_pos h5,Ra];exact h
 rename_i h5;rw [if_neg h5];rw [if_neg (by rw [Qs h4 h5];simp),if_neg h19,if_neg h20] at h0
 have hst:st=st':=by
  split at h
  ·rename_i h38;rw [if_pos h38] at h0;exact qse
  rename_i h38;rw [if_neg h38] at h0
  split at h
  ·rename_i h40;rw [if_pos h40] at h0;exact qse
  rename_i h40;rw [if_neg h40] at h0
  split at h
  ·rename_i h36;rw [if_pos h36] at h0;exact qse
  simpa using h
 rw [hst];rfl
theorem ND{g:Ah}{rec:Cu}(hf:Tg g rec)(hr:ES g rec):ES g (Yj g rec):=by
 intro n st st' hw h h0;obtain ⟨k,nm,x,kids,re,im⟩:=n;rw [Yg] at hw;rw [Dg] at h0;rw [Xd];rw [Qg] at h
 split at h
 ·cases h
 split at h
 ·rename_i h19;subst h19;obtain ⟨h1,h2⟩:=Option.or_eq_none' h0;have hb:Iq g st.fn st.rule st.loops 19 nm kids re im=if flook g nm=0 then (some (28,re,im):Option Ic) else if (Bk g (flook g nm)).length<kids.length then some (31,re,im) else none:=rfl
  rw [hb] at h1;rw [if_pos rfl]
  split at h
  ·rename_i hc;rw [if_pos hc] at h1;cases h1
  rename_i hc;rw [if_neg hc] at h1
  split at h
  ·rename_i hc;rw [if_pos hc] at h1;cases h1
  exact Xl hf hr _ kids _ 0 _ _ hw.2 h h2
 rename_i h19;rw [if_neg h19]
 split at h
 ·rename_i h20;subst h20;rw [if_pos rfl];exact MF hf hr hw.2 h h0
 rename_i h20;rw [if_neg h20];obtain ⟨h1,h2⟩:=Option.or_eq_none' h0;simp only [Option.bind_eq_some_iff] at h;obtain ⟨s1,h3,h⟩:=h;have c1:=CO h19 h20 h3;have e1:=TG h19 h20 h3 h1;rw [Jw,e1];show evs (Nq g st.fn kids) s1=some st'
 split at h
 ·rename_i hl;rw [if_pos hl] at h2
  split at h
  ·cases h
  simp only [Option.bind_eq_some_iff] at h;obtain ⟨s2,h4,h⟩:=h
  split at h
  ·cases h
  cases h
  have c2:=Li hf _ kids 0 _ _ hw.2 h4;obtain ⟨⟨d1,d2,d3⟩,d4⟩:=c2;simp only at d1 d2 d3 d4;rw [←c1.1.1,←c1.1.2.1,←c1.1.2.2] at h2;have e2:=Qr hf hr _ kids 0 _ _ hw.2 h4 h2;replace e2:evs (Nq g s1.fn kids) (Kh s1 (s1.loops+1))=some s2:=e2;rw [c1.1.1,Xb,Option.map_eq_some_iff] at e2;obtain ⟨s3,e3,e4⟩:=e2;rw [e3,←e4]
  have hl3:s3.loops=s1.loops:=by
   have k1:=Xb s1.loops (Nq g st.fn kids) s1;have k2:Kh s1 s1.loops=s1:=rfl;rw [k2,e3] at k1;simp only [Option.map_some,Option.some.injEq] at k1;have:=congrArg NS.loops k1;exact this
  have hl4:s1.loops+1 -1=s3.loops:=by omega
  simp only [Kh,hl4]
 rename_i hl;rw [if_neg hl] at h2
 have h34:(k==34)=false:=by
  simp only [Lh,Bool.or_eq_true,beq_iff_eq,not_or] at hl;simp [hl]
 rw [h34] at h2;rw [←c1.1.1,←c1.1.2.1,←c1.1.2.2] at h2;have e2:=Qr hf hr _ kids 0 _ _ hw.2 h h2;rw [c1.1.1] at e2;exact e2
theorem Vz(g:Ah):∀fu,ES g (Jq g fu)
 |0=>fun _ _ _ _ h=>by cases h
 |fu+1=>ND (Lg g fu) (Vz g fu)
end Go.Proofs.YtkfillfkbhbbjaaGreatDoor
namespace Go.Proofs.YtkfillfkbhbbjaaGreatDoor
structure Ea where
 t:Ae
 like:Nat
structure Gq where
 thing:Int
 how:Int
 re:Nat
 im:Nat
structure Xs where
 thing:Nat
 atU:Nat
 re:Nat
 im:Nat
structure DS where
 things:List Ea
 uses:List Gq
 calls:List Xs
def Fi(t:Ae):List Ea→Nat→Option Nat
 | [],_=>none
 |x::l,i=>if Oq t x.t then some i else Fi t l (i+1)
def Um(st:DS)(t:Ae):Option (Nat×DS):=match Fi t st.things 0 with
 |some i=>some (i,st)
 |none=>if st.things.length<1000000 then some (st.things.length,{st with things:=st.things++ [⟨t,st.things.length⟩]}) else none
def Jx(st:DS)(u:Gq):Option DS:=if st.uses.length<1000000 then some {st with uses:=st.uses++ [u]} else none
def Jy(l:List Ea):Nat→Nat→Option Nat
 |0,_=>none
 | f+1,i=>match l[i]? with
   |none=>none
   |some x=>if x.like=i then some i else Jy l f x.like
def Jb(st:DS)(i:Nat):Option Nat:=Jy st.things 1000000 i
def Ir(st:DS)(i j:Nat):DS:={st with things:=st.things.modify i fun x=>{x with like:=j}}
def It(st:DS):Ev→Option DS
 | .see t re im=>(Um st t).bind fun o=>Jx o.2 ⟨o.1,0,re,im⟩
 | .use t arr re im=>(Um st t).bind fun o=>Jx o.2 ⟨o.1,if arr then 2 else 1,re,im⟩
 | .kid p re im=>(Um st p).bind fun o=>Jx {o.2 with calls:=o.2.calls++ [⟨o.1,o.2.uses.length,re,im⟩]} ⟨o.1,0,re,im⟩
 | .bad re im=>Jx st ⟨-1,3,re,im⟩
 | .link a p re im=>(Um st p).bind fun q=>(Um q.2 a).bind fun o=>(Jx o.2 ⟨o.1,0,re,im⟩).bind fun s=>(Jb s o.1).bind fun x=>(Jb s q.1).bind fun y=>some (Ir s x y)
 | .reg t=>(Um st t).map (·.2)
def Ee(l:List Ev)(st:DS):Option DS:=l.foldlM It st
def Fq(st:DS):List Gq→List Int→Option (List Int)
 | [],k=>some k
 |u::l,k=>if u.how=1∨u.how=2 then (Jb st u.thing.toNat).bind fun r=>(k[r]?).bind fun v=>Fq st l (if v=0 then k.set r u.how else k) else Fq st l k
def Bb(st:DS)(i:Nat):Bool:=st.calls.any fun c=>c.atU==i
def Nt(st:DS)(k:List Int)(i:Nat)(u:Gq):Option Bool:=
 if u.how=3 then some true
 else if u.how>0 then (Jb st u.thing.toNat).bind fun r=>(k[r]?).map fun v=>v !=u.how
 else if Bb st i=true then (Jb st u.thing.toNat).bind fun r=>(k[r]?).map fun v=>v==2
 else some false
def Cj(st:DS)(k:List Int):Nat→List Gq→Option (Option Ic)
 |_,[]=>some none
 |i,u::l=>(Nt st k i u).bind fun b=>if b then some (some (30,u.re,u.im)) else Cj st k (i+1) l
def Gk(st:DS)(k:List Int):Nat→List Ea→List ByteArray→List ByteArray→Option (List ByteArray×List ByteArray)
 |_,[],sc,ar=>some (sc,ar)
 |i,x::l,sc,ar=>if x.t.1>0 then Gk st k (i+1) l sc ar else (Jb st i).bind fun r=>(k[r]?).bind fun v=>
  if v=2 then Gk st k (i+1) l sc (Ep x.t.2 ar) else Gk st k (i+1) l (if Am x.t.2 then sc else Ep x.t.2 sc) ar
def Mm(st:DS)(k:List Int)(i:Nat):List ByteArray→Option (List Bool)
 | []=>some []
 |s::l=>(Fi (i+1,s) st.things 0).bind fun j=>(Jb st j).bind fun r=>(k[r]?).bind fun v=>(Mm st k i l).map fun m=>(v==2)::m
def Ka(st:DS)(k:List Int):Nat→List Az→Option (List (List Bool))
 |_,[]=>some []
 |i,f::l=>(Mm st k i f.params).bind fun x=>(Ka st k (i+1) l).map fun m=>x::m
def Xj(st:DS)(k:List Int)(g:Ah):Option Xq:=(Gk st k 0 st.things [] []).bind fun o=>(Ka st k 0 g.funcs).map fun p=>⟨o.1,o.2,p⟩
end Go.Proofs.YtkfillfkbhbbjaaGreatDoor
namespace Go.Proofs.YtkfillfkbhbbjaaGreatDoor
theorem Lc{a b:ByteArray}:same a b=true↔a=b:=by
 unfold same;rw [beq_iff_eq]
 constructor
 ·intro h
  cases a with|mk x=>cases b with|mk y=>exact congrArg ByteArray.mk (Array.toList_inj.1 h)
 rintro rfl;rfl
theorem Fw{a b:Ae}:Oq a b=true↔a=b:=by
 unfold Oq;rw [Bool.and_eq_true,beq_iff_eq,Lc,Prod.ext_iff]
abbrev Ew:=List (Ae×Ae)
theorem Fd(t a b:Ae):∀m:Ew,Cf t (m++ [(a,b)])=match Cf t m with
  |some u=>some u
  |none=>if t=a then some b else none
 | []=>by
   simp only [List.nil_append,Cf]
   by_cases h:t=a
   ·rw [if_pos (Fw.2 h),if_pos h]
   rw [if_neg (fun k=>h (Fw.1 k)),if_neg h]
 | x::m=>by
   simp only [List.cons_append,Cf]
   split
   ·rfl
   exact Fd t a b m
def rt(m:Ew)(t:Ae):Ae:=m.foldl (fun r x=>if r=x.1 then x.2 else r) t
theorem Yq(m:Ew)(a b t:Ae):rt (m++ [(a,b)]) t=if rt m t=a then b else rt m t:=by unfold rt;rw [List.foldl_append];rfl
inductive Ja:Ew→Prop
 |nil:Ja []
 |add {m:Ew} {a b:Ae} (h:Ja m) (ha:Cf a m=none) (hb:Cf b m=none) (hab:a≠b):Ja (m++ [(a,b)])
theorem Ys{m:Ew}{a b:Ae}(hb:Cf b m=none)(hab:a≠b):∀{f:Nat} {t r:Ae},Dw m f t=some r→Dw (m++ [(a,b)]) (f+1) t=some (if r=a then b else r)
 |0,t,r,h=>by cases h
 | f+1,t,r,h=>by
   rw [Dw] at h
   cases ha:Cf t m with
   |none=>
    rw [ha] at h;simp only [Option.some.injEq] at h;subst h;rw [Dw,Fd,ha]
    by_cases hta:t=a
    ·rw [if_pos hta,if_pos hta];simp only;rw [Dw,Fd,hb,if_neg (fun h=>hab h.symm)]
    rw [if_neg hta,if_neg hta]
   |some u=>
    rw [ha] at h;simp only at h;rw [Dw,Fd,ha];exact Ys hb hab h
theorem Ja.root{m:Ew}(h:Ja m):∀t,Dw m (m.length+1) t=some (rt m t):=by
 induction h with
 |nil=>intro t;rfl
 |add h ha hb hab ih=>
  intro t;rw [List.length_append,List.length_singleton,Yq];exact Ys hb hab (ih t)
theorem Vp{m:Ew}:∀{f:Nat} {t r:Ae},Dw m f t=some r→Cf r m=none
 |0,t,r,h=>by cases h
 | f+1,t,r,h=>by
   rw [Dw] at h
   cases ha:Cf t m with
   |none=>rw [ha] at h;simp only [Option.some.injEq] at h;exact h▸ha
   |some u=>rw [ha] at h;exact Vp h
theorem Ja.look{m:Ew}(h:Ja m)(t:Ae):Cf (rt m t) m=none:=Vp (h.root t)
theorem Ii{st:NS}(h:Ja st.same)(t:Ae):Dl st t=some (rt st.same t):=h.root t
def Kn(m:Ew)(a p:Ae):Ew:=if rt m a=rt m p then m else m++ [(rt m a,rt m p)]
theorem Ja.link{m:Ew}(h:Ja m)(a p:Ae):Ja (Kn m a p):=by
 unfold Kn;split
 ·exact h
 rename_i hne;exact .add h (h.look a) (h.look p) hne
theorem Hq(st:NS)(t:Ae):(Bp st t).same=st.same:=by unfold Bp;split<;>rfl
theorem UF{st:NS}(h:Ja st.same)(a p:Ae)(re im:Nat):BU st (.link a p re im)=some {Bp st a with same:=Kn st.same a p}:=by
 have hs:Ja (Bp st a).same:=by rw [Hq];exact h
 simp only [BU,Ii hs,Option.bind_some,Hq,Kn]
 by_cases ht:rt st.same a=rt st.same p
 ·rw [if_pos (Fw.2 ht),if_pos ht];have:(Bp st a).same=st.same:=Hq _ _
  cases h:Bp st a;simp_all
 rw [if_neg (fun k=>ht (Fw.1 k)),if_neg ht]
/-! ### a node is spoken of, if it is small -/
mutual
def Bo:Af→Nat
 | .mk _ _ _ kids _ _=>1+Ar kids
def Ar:List Af→Nat
 | []=>0
 |k::l=>Bo k+Ar l
end
theorem Ci(n:Af):0<Bo n:=by cases n;rw [Bo];omega
theorem Jl:∀l:List Af,l.length≤Ar l
 | []=>Nat.le_refl _
 |k::l=>by have:=Jl l;have:=Ci k;rw [Ar,List.length_cons];omega
structure Kg (st st':NS) (n:Nat):Prop where
 uses:st'.uses.length≤st.uses.length+n
 seen:st'.seen.length≤st.seen.length+n
 same:Ja st'.same
 loops:st'.loops=st.loops
 fn:st'.fn=st.fn
 rule:st'.rule=st.rule
theorem Kg.trans{a b c:NS}{n m k:Nat}(h:Kg a b n)(g:Kg b c m)(hk:n+m≤k):Kg a c k:=
 ⟨by have:=h.uses;have:=g.uses;omega,by have:=h.seen;have:=g.seen;omega,g.same,g.loops.trans h.loops,g.fn.trans h.fn,g.rule.trans h.rule⟩
theorem Gx{st:NS}(h:Ja st.same)(re im:Nat)(e:Int):Kg st (Al st re im e) 0:=by
 unfold Al;split<;>exact ⟨Nat.le_refl _,Nat.le_refl _,h,rfl,rfl,rfl⟩
theorem Eb{st:NS}(h:Ja st.same):Kg st st 0:=⟨Nat.le_refl _,Nat.le_refl _,h,rfl,rfl,rfl⟩
theorem Pt{g:Ah}{st:NS}(h:Ja st.same)(n:Af):Kg st (Bi g st n) 0:=by
 unfold Bi;split
 ·exact Gx h _ _ _
 exact Eb h
theorem Wv{st:NS}(h:Ja st.same)(t:Ae):(Bp st t).uses=st.uses∧Kg st (Bp st t) 1:=by
 unfold Bp Df;split
 ·refine ⟨rfl,Nat.le_succ _, ?_,h,rfl,rfl,rfl⟩;simp only;split
  ·omega
  simp
 exact ⟨rfl,Nat.le_succ _,Nat.le_succ _,h,rfl,rfl,rfl⟩
def GV(_:Ah)(rec:Cu)(f:Nat):Prop:=∀n st,Bo n≤f→Ja st.same→st.uses.length+(2*Bo n -1)≤400000→0≤st.loops→st.loops+(Bo n:Int)≤900000→∃st',rec st n=some st'∧Kg st st' (2*Bo n -1)
def EV(st:NS)(l:List Af)(r:Option NS):Prop:=Ja st.same→st.uses.length+2*Ar l≤400000→0≤st.loops→st.loops+(Ar l:Int)≤900000→∃st',r=some st'∧Kg st st' (2*Ar l)
theorem PN{st:NS}(h:Ja st.same)(lp:Bool)(i:Nat)(k:Af):Kg st (Qv lp i st k) 0:=by
 unfold Qv;split
 ·exact Gx h _ _ _
 exact Eb h
theorem Og{st s0:NS}{k:Af}{l:List Af}{r:Option NS}{F:NS→Option NS}{n:Nat}(hn:n≤1)(g0:Ja st.same→Kg st s0 n)(hr:Ja s0.same→s0.uses.length+(2*Bo k -1)≤400000→0≤s0.loops→s0.loops+(Bo k:Int)≤900000→∃s1,r=some s1∧Kg s0 s1 (2*Bo k -1))(hl:∀s1,EV s1 l (F s1)):EV st (k::l) (r.bind F):=by
 intro hs hu h0 hb;have g0:=g0 hs;have hk:=Ci k;have e0:=g0.loops;have u0:=g0.uses;rw [Ar] at hu hb⊢;obtain ⟨s1,h1,g1⟩:=hr g0.same jh jh jh;have g01:=g0.trans g1 (Nat.le_refl _);have e1:=g01.loops;have u1:=g01.uses;obtain ⟨s2,h2,g2⟩:=hl s1 g01.same jh jh jh;exact ⟨s2,by rw [h1,Option.bind_some,h2],g01.trans g2 jh⟩
theorem AT{st st':NS}(h:st'=st):EV st [] (some st'):=by subst h;exact fun hs _ _ _=>⟨_,rfl,Eb hs⟩
theorem Of{g:Ah}{rec:Cu}{f:Nat}(hr:GV g rec f)(lp:Bool):∀(l:List Af) (i:Nat) (st:NS),Ar l≤f→EV st l (Ga rec lp i l st)
 | [],i,st,_=>AT rfl
 | k::l,i,st,hf=>by
   rw [Ar] at hf;exact Og (n:=0) jh (fun h=>PN h lp i k) (fun h1 h2 h3 h4=>hr k _ jh h1 h2 h3 h4) fun s1=>Of hr lp l (i+1) s1 jh
theorem AD{st:NS}(u:Kf)(hs:Ja st.same)(hu:st.uses.length<400000):∃st',Hp st u=some st'∧Kg st st' 1∧st'.uses.length=st.uses.length+1∧st'.seen=st.seen:=by
 unfold Hp;rw [if_pos hu];exact ⟨_,rfl,⟨by simp,Nat.le_succ _,hs,rfl,rfl,rfl⟩,by simp,rfl⟩
theorem Wb{g:Ah}{st:NS}(n k:Af)(f:NS→Ae→Kf)(hs:Ja st.same)(hu:st.uses.length<400000):∃st',Hp (Iv g (Bi g st n) k.name).2 (f (Bi g st n) (Iv g (Bi g st n) k.name).1)=some st'∧Kg st st' 1:=by
 have g0:=Pt (g:=g) hs n;rw [Nb];obtain ⟨e1,g1⟩:=Wv g0.same (Du g (Bi g st n).fn k.name);have u0:=g0.uses;obtain ⟨s2,h2,g2,u2,d2⟩:=AD (f (Bi g st n) (Du g (Bi g st n).fn k.name)) g1.same (by rw [e1];omega);have l0:=g0.seen;have l1:=g1.seen;exact ⟨s2,h2,⟨by rw [u2,e1];omega,by rw [d2];omega,g2.same,by rw [g2.loops,g1.loops,g0.loops],by rw [g2.fn,g1.fn,g0.fn],by rw [g2.rule,g1.rule,g0.rule]⟩⟩
theorem Tb{g:Ah}{rec:Cu}{f:Nat}(hr:GV g rec f)(fn:Nat):∀(l:List Af) (ps:List ByteArray) (st:NS),l.length≤ps.length→Ar l≤f→EV st l (Gh g rec fn ps l st)
 | [],ps,st,_,_=>by rw [Gh];exact AT rfl
 |k::l,[],st,hp,_=>by simp at hp
 | k ::l,p::ps,st,hp,hf=>by
   rw [Ar] at hf;have hp':l.length≤ps.length:=by simpa using hp
   rw [Gh]
   by_cases h4:k.kind=4
   ·rw [if_neg (by simp [h4])];intro hs;have g0:=Pt (g:=g) hs k;obtain ⟨e1,g1⟩:=Wv g0.same (Du g (Bi g st k).fn k.name);have g01:=g0.trans g1 (Nat.le_refl _);rw [Nb];simp only [Ii g01.same,Option.bind_eq_bind,Option.bind_some]
    revert hs
    generalize Bp (Bi g st k) (Du g (Bi g st k).fn k.name)=s1 at*
    have key:∀(b:Bool) (x y:Ae),(b=false→x≠y∧Cf x s1.same=none∧Cf y s1.same=none)→EV st (k::l) (Gh g rec fn ps l (if b=true then s1 else {s1 with same:=s1.same++ [(x,y)]})):=by
     intro b x y hb
     have g2:Kg s1 (if b=true then s1 else {s1 with same:=s1.same++ [(x,y)]}) 0:=by
      cases b with
      |true=>exact Eb g01.same
      |false=>exact ⟨Nat.le_refl _,Nat.le_refl _,.add g01.same (hb rfl).2.1 (hb rfl).2.2 (hb rfl).1,rfl,rfl,rfl⟩
     have:=Og (st:=st) (k:=k) (l:=l) (r:=some (if b=true then s1 else {s1 with same:=s1.same++ [(x,y)]})) (F:=Gh g rec fn ps l) (n:=1) (Nat.le_refl _) (fun _=>g01.trans g2 (Nat.le_refl _)) (fun h _ _ _=>⟨_,rfl,⟨by omega,by omega,h,rfl,rfl,rfl⟩⟩) fun s1=>Tb hr fn l ps s1 hp' jh
     exact this
    refine key _ _ _ fun hb=>⟨fun he=> ?_,g01.same.look _,g01.same.look _⟩
    rw [Fw.2 he] at hb;cases hb
   rw [if_pos h4];intro hs hu;have hk:=Ci k;obtain ⟨s1,h1,g1,-⟩:=AD (st:=st) ⟨k.re,k.im,Gs,false,(fn,p),true,false⟩ hs (by rw [Ar] at hu;omega);rw [h1];exact Og (st:=st) (s0:=s1) (F:=Gh g rec fn ps l) (n:=1) (Nat.le_refl _) (fun _=>g1) (fun h1 h2 h3 h4=>hr k _ jh h1 h2 h3 h4) (fun s1=>Tb hr fn l ps s1 hp' jh) hs hu
theorem Ri{g:Ah}{rec:Cu}{f:Nat}(hr:GV g rec f)(arr:Int):∀(l:List Af) (i:Nat) (st:NS),Ar l≤f→EV st l (Nw g rec arr i l st)
 | [],i,st,_=>AT rfl
 | k::l,i,st,hf=>by
   rw [Ar] at hf;rw [Nw]
   by_cases ha:(i:Int)=arr
   ·rw [if_pos ha];unfold GR
    by_cases h4:k.kind=4
    ·rw [if_pos h4];intro hs hu;have hk:=Ci k;obtain ⟨s1,h1,g1⟩:=Wb (g:=g) (st:=st) k k (fun _ t=>⟨k.re,k.im,t,true,Gs,false,false⟩) hs (by rw [Ar] at hu;omega);rw [h1];exact Og (st:=st) (s0:=s1) (r:=some s1) (F:=Nw g rec arr (i+1) l) (n:=1) (Nat.le_refl _) (fun _=>g1) (fun h _ _ _=>⟨_,rfl,⟨by omega,by omega,h,rfl,rfl,rfl⟩⟩) (fun s1=>Ri hr arr l (i+1) s1 jh) hs hu
    rw [if_neg h4];intro hs hu;have hk:=Ci k;obtain ⟨s1,h1,g1,-⟩:=AD (st:=st) ⟨k.re,k.im,Gs,false,Gs,false,true⟩ hs (by rw [Ar] at hu;omega);rw [h1];exact Og (st:=st) (s0:=s1) (F:=Nw g rec arr (i+1) l) (n:=1) (Nat.le_refl _) (fun _=>g1) (fun h1 h2 h3 h4=>hr k _ jh h1 h2 h3 h4) (fun s1=>Ri hr arr l (i+1) s1 jh) hs hu
   rw [if_neg ha];exact Og (st:=st) (s0:=st) (F:=Nw g rec arr (i+1) l) (n:=0) jh (fun h=>Eb h) (fun h1 h2 h3 h4=>hr k _ jh h1 h2 h3 h4) (fun s1=>Ri hr arr l (i+1) s1 jh)
theorem PM{st:NS}(h:Ja st.same)(nm:ByteArray)(kids:List Af):Kg st (Ih nm st kids) 0:=by
 unfold Ih;split
 ·split
  ·exact Gx h _ _ _
  exact Eb h
 exact Eb h
theorem LH{g:Ah}{nm:ByteArray}{st s1:NS}{kids:List Af}(h:DD g nm st kids=some s1):∃k,kids= [k]∧s1=(Iv g (Bi g st k) k.name).2:=by
 match kids,h with
 | [k],h=>
  rw [DD] at h
  split at h
  ·cases h;exact ⟨k,rfl,rfl⟩
  cases h
 | [],h=>cases h
 |_::_::_,h=>cases h
theorem GN{g:Ah}{rec:Cu}{f:Nat}(hr:GV g rec f)(nm:ByteArray)(kids:List Af)(re im:Nat)(st:NS)(hf:Ar kids≤f):EV st kids (Ml g rec st nm kids re im):=by
 intro hs hu h0 hb;unfold Ml
 split
 ·have g0:=Gx hs re im 31;exact ⟨_,rfl,g0.trans (Eb g0.same) (Nat.zero_le _)⟩
 split
 ·rename_i s1 hl;obtain ⟨k,rfl,rfl⟩:=LH hl;have g0:=Pt (g:=g) hs k;rw [Nb];obtain ⟨-,g1⟩:=Wv g0.same (Du g (Bi g st k).fn k.name);have hk:=Ci k;exact ⟨_,rfl,g0.trans g1 (by simp only [Ar];omega)⟩
 have g0:=PM hs nm kids;have e0:=g0.loops;have u0:=g0.uses;obtain ⟨s1,h1,g1⟩:=Ri hr (Gi nm) kids 0 (Ih nm st kids) hf g0.same jh jh jh;exact ⟨s1,h1,g0.trans g1 jh⟩
theorem OA{g:Ah}{st:NS}{k:Int}{nm:ByteArray}{x:Nat}{kids:List Af}{re im:Nat}(hs:Ja st.same)(hu:st.uses.length<400000):∃st',Uj g st (.mk k nm x kids re im)=some st'∧Kg st st' 1:=by
 have z:∀{s:NS},Kg st s 0→Kg st s 1:=fun g=>g.trans (Eb g.same) jh
 rw [Km]
 split
 ·exact Wb (g:=g) (st:=st) (.mk k nm x kids re im) (.mk k nm x kids re im) (fun _ t=>⟨re,im,t,false,Gs,false,false⟩) hs hu
 split
 ·exact Wb (g:=g) (st:=st) (.mk k nm x kids re im) (.mk k nm x kids re im) (fun _ t=>⟨re,im,t,true,Gs,false,false⟩) hs hu
 split
 ·split
  ·exact qnb
  exact zob
 split
 ·split
  ·exact qnb
  exact zob
 split
 ·split
  ·exact qnb
  exact zob
 exact zob
theorem JX{g:Ah}{rec:Cu}{f:Nat}(hr:GV g rec f):GV g (Yj g rec) (f+1):=by
 intro n st hf hs hu h0 hb;obtain ⟨k,nm,x,kids,re,im⟩:=n;rw [Bo] at hf hu hb⊢;have hlen:=Jl kids;rw [Qg,if_neg jh];have z:∀{s:NS},Kg st s (2*Ar kids)→Kg st s (2*(1+Ar kids) -1):=fun g=>g.trans (Eb g.same) jh
 have zf:∀(e:Int),Kg st (Al st re im e) (2*(1+Ar kids) -1):=fun e=>(Gx hs re im e).trans (Eb (Gx hs re im e).same) jh
 split
 ·split
  ·exact ⟨_,rfl,zf _⟩
  split
  ·exact ⟨_,rfl,zf _⟩
  rename_i hp;obtain ⟨s1,h1,g1⟩:=Tb hr (flook g nm) kids (Bk g (flook g nm)) st jh jh hs jh h0 jh;exact ⟨s1,h1,z g1⟩
 split
 ·obtain ⟨s1,h1,g1⟩:=GN hr nm kids re im st jh hs jh h0 jh;exact ⟨s1,h1,z g1⟩
 obtain ⟨s1,h1,g1⟩:=OA (g:=g) (st:=st) (k:=k) (nm:=nm) (x:=x) (kids:=kids) (re:=re) (im:=im) hs jh;have e1:=g1.loops;have u1:=g1.uses;rw [h1,Option.bind_some]
 split
 ·rw [if_neg jh];obtain ⟨s2,h2,g2⟩:=Of hr (k==34) kids 0 {s1 with loops:=s1.loops+1} jh g1.same ZZ ZZ ZZ
  have e2:=g2.loops;simp only at e2;rw [h2,Option.bind_some,if_neg jh];refine ⟨_,rfl,⟨?_, ?_,g2.same, ?_, ?_, ?_⟩⟩
  ·have:=g2.uses;simp only at this⊢;omega
  ·have:=g2.seen;have:=g1.seen;simp only at*;omega
  ·simp only;omega
  ·exact g2.fn.trans g1.fn
  exact g2.rule.trans g1.rule
 obtain ⟨s2,h2,g2⟩:=Of hr false kids 0 s1 jh g1.same jh jh jh;exact ⟨s2,h2,g1.trans g2 jh⟩
theorem Sk(g:Ah):∀fu,GV g (Jq g fu) fu
 |0=>fun n _ h=>by have:=Ci n;omega
 |fu+1=>JX (Sk g fu)
end Go.Proofs.YtkfillfkbhbbjaaGreatDoor
namespace Go.Proofs.YtkfillfkbhbbjaaGreatDoor
/-! ### kinds, plainly -/
def Qh(t:Ae):Bool:=decide (t.1=0)&&Am t.2
def Hc(m:Ew)(r:Ae)(u:Kf):Bool:= !(u.kid||u.bad)&&decide (rt m u.of=r)
def Cc(m:Ew)(r:Ae):List Kf→Nat
 | []=>0
 |u::l=>if Hc m r u=true then (if u.array then 2 else 1) else Cc m r l
def Dq(m:Ew)(r:Ae):List Ae→Bool
 | []=>false
 |t::l=>(Qh t&&decide (rt m t=r))||Dq m r l
def Mq(st:NS)(r:Ae):Nat:=if Dq st.same r st.seen=true then 1 else Cc st.same r st.uses
theorem Wj(r t:Ae)(n:Nat)(k:Cs):kof r ((t,n)::k)=if r=t then n else kof r k:=by
 simp only [kof]
 by_cases h:r=t
 ·rw [if_pos (Fw.2 h),if_pos h]
 rw [if_neg (fun q=>h (Fw.1 q)),if_neg h]
theorem Nk{st:NS}(hs:Ja st.same):∀(l:List Ae) (k:Cs),∃k',Nl st l k=some k'∧∀r,kof r k'=if Dq st.same r l=true then 1 else kof r k
 | [],k=>⟨k,rfl,fun r=>by rw [Dq];rfl⟩
 | t ::l,k=>by
   unfold Nl;have hsp:(t.1=0∧Am t.2=true)↔Qh t=true:=by simp [Qh]
   by_cases h:t.1=0∧Am t.2=true
   ·rw [if_pos h];simp only [Ii hs,Option.bind_eq_bind,Option.bind_some];obtain ⟨k',h1,h2⟩:=Nk hs l ((rt st.same t,1)::k);refine ⟨k',h1,fun r=> ?_⟩;rw [h2,Wj,Dq,hsp.1 h,Bool.true_and]
    cases Dq st.same r l with
    |true=>rw [Bool.or_true];rfl
    |false=>
     rw [Bool.or_false,if_neg zi]
     by_cases hr:rt st.same t=r
     ·rw [if_pos hr.symm,if_pos (by simpa using hr)]
     rw [if_neg (fun q=>hr q.symm),if_neg (by simpa using hr)]
   rw [if_neg h];obtain ⟨k',h1,h2⟩:=Nk hs l k;refine ⟨k',h1,fun r=> ?_⟩;have hsp:Qh t=false:=by cases hq:Qh t with|false=>rfl|true=>exact absurd (hsp.2 hq) h
   rw [h2,Dq,hsp,Bool.false_and,Bool.false_or]
theorem Ko{st:NS}(hs:Ja st.same):∀(l:List Kf) (k:Cs),∃k',Nj st l k=some k'∧∀r,kof r k'=if kof r k>0 then kof r k else Cc st.same r l
 | [],k=>⟨k,rfl,fun r=>by simp only [Cc];split<;>omega⟩
 | u::l,k=>by
   unfold Nj
   by_cases h:(u.kid||u.bad)=true
   ·rw [if_pos h];obtain ⟨k',h1,h2⟩:=Ko hs l k;refine ⟨k',h1,fun r=> ?_⟩;rw [h2,Cc,Hc,h];rfl
   rw [if_neg h];simp only [Ii hs,Option.bind_eq_bind,Option.bind_some];have hu:∀r,Hc st.same r u=decide (rt st.same u.of=r):=fun r=>by simp [Hc,h]
   by_cases hk:kof (rt st.same u.of) k>0
   ·rw [if_pos hk];obtain ⟨k',h1,h2⟩:=Ko hs l k;refine ⟨k',h1,fun r=> ?_⟩;rw [h2,Cc,hu]
    by_cases hr:rt st.same u.of=r
    ·subst hr;rw [if_pos hk,if_pos hk]
    rw [decide_eq_false hr];rfl
   rw [if_neg hk];obtain ⟨k',h1,h2⟩:=Ko hs l ((rt st.same u.of,if u.array then 2 else 1)::k);refine ⟨k',h1,fun r=> ?_⟩
   by_cases hr:rt st.same u.of=r
   ·subst hr;have e0:kof (rt st.same u.of) k=0:=by omega
    have e1:kof (rt st.same u.of) ((rt st.same u.of,if u.array then 2 else 1)::k)=if u.array then 2 else 1:=by rw [Wj,if_pos rfl]
    rw [h2,Cc,hu,e1,e0,decide_eq_true rfl]
    cases u.array<;>rfl
   have e1:kof r ((rt st.same u.of,if u.array then 2 else 1)::k)=kof r k:=by rw [Wj,if_neg (fun q=>hr q.symm)]
   rw [h2,Cc,hu,e1,decide_eq_false hr];rfl
theorem Tq{st:NS}(hs:Ja st.same):∃k,Mb st=some k∧∀r,kof r k=Mq st r:=by
 obtain ⟨k1,h1,h2⟩:=Nk hs st.seen [];obtain ⟨k2,h3,h4⟩:=Ko hs st.uses k1;refine ⟨k2, ?_,fun r=> ?_⟩
 ·simp only [Mb,h1,h3,Option.bind_eq_bind,Option.bind_some]
 rw [h4,h2,Mq]
 cases Dq st.same r st.seen<;>rfl
def Un(st:NS)(u:Kf):Bool:=if u.bad then true else if u.kid then Mq st (rt st.same u.param)==2 else (Mq st (rt st.same u.of)==2) !=u.array
def Cx(st:NS):List Kf→Option Ic
 | []=>none
 |u::l=>if Un st u=true then some (30,u.re,u.im) else Cx st l
theorem Rj{s0:NS}{k:Cs}(hs:Ja s0.same)(hk:∀r,kof r k=Mq s0 r):∀(l:List Kf) (st:NS),st.same=s0.same→st.uses=s0.uses→st.seen=s0.seen→∃st',Gt k l st=some st'∧st'.same=s0.same∧st'.uses=s0.uses∧st'.seen=s0.seen∧Gn st'=(Gn st).or (Cx s0 l)
 | [],st,h1,h2,h3=>⟨st,rfl,h1,h2,h3,by rw [Cx,Fh]⟩
 | u::l,st,h1,h2,h3=>by
   have hb:(if u.bad then some true
    else if u.kid then (Dl st u.param).bind fun r=>some (kof r k==2)
    else (Dl st u.of).bind fun r=>some ((kof r k==2) !=u.array))=some (Un s0 u):=by
    unfold Un;have hs':Ja st.same:=by rw [h1];exact hs
    rw [Ii hs',Ii hs',h1]
    split
    ·rfl
    split
    ·simp only [Option.bind_some,hk]
    simp only [Option.bind_some,hk]
   have hst:Dj st (if Un s0 u=true then Al st u.re u.im 30 else st) (if Un s0 u=true then some (30,u.re,u.im) else none):=by
    split
    ·exact RO
    exact NX
   have hkeep:(if Un s0 u=true then Al st u.re u.im 30 else st).same=s0.same∧(if Un s0 u=true then Al st u.re u.im 30 else st).uses=s0.uses∧(if Un s0 u=true then Al st u.re u.im 30 else st).seen=s0.seen:=by
    split
    ·unfold Al;split<;>exact ⟨h1,h2,h3⟩
    exact ⟨h1,h2,h3⟩
   obtain ⟨st',g1,g2,g3,g4,g5⟩:=Rj hs hk l _ hkeep.1 hkeep.2.1 hkeep.2.2;refine ⟨st', ?_,g2,g3,g4, ?_⟩
   ·unfold Gt;simp only [Option.bind_eq_bind];rw [hb,Option.bind_some];exact g1
   rw [g5,hst.2,Da,Cx]
   congr 1
   split<;>rfl
def Ft(st:NS)(t:Ae):Bool:=Mq st (rt st.same t)==2
def Dt(t:Ae):Bool:= !(decide (t.1>0)||Am t.2)
theorem Nf{st:NS}{k:Cs}(hs:Ja st.same)(hk:∀r,kof r k=Mq st r)(arr:Bool):∀l:List Ae,Lx st k arr l=some ((l.filter fun t=>Dt t&&Ft st t==arr).map (·.2))
 | []=>rfl
 | t::l=>by
   unfold Lx;rw [List.filter_cons]
   by_cases h:(decide (t.1>0)||Am t.2)=true
   ·rw [if_pos h,Nf hs hk arr l,if_neg (by simp [Dt,h])]
   rw [if_neg h];simp only [Ii hs,Nf hs hk arr l,Option.bind_eq_bind,Option.bind_some,hk];have hg:Dt t=true:=by simp only [Dt,Bool.not_eq_true'];simpa using h
   rw [hg,Bool.true_and];show some (if Ft st t==arr then _ else _)=some (List.map _ (if _ then _ else _))
   split<;>rfl
def IM(st:NS)(i:Nat)(l:List ByteArray):List Bool:=l.map fun s=>Ft st (i+1,s)
def Tl(st:NS):Nat→List Az→List (List Bool)
 |_,[]=> []
 |i,f::l=>IM st i f.params::Tl st (i+1) l
theorem Vv{st:NS}{k:Cs}(hs:Ja st.same)(hk:∀r,kof r k=Mq st r)(i:Nat):∀l:List ByteArray,Vw st k i l=some (IM st i l)
 | []=>rfl
 | s::l=>by
   unfold Vw;simp only [Ii hs,Vv hs hk i l,Option.bind_eq_bind,Option.bind_some,hk]
   rfl
theorem Qn{st:NS}{k:Cs}(hs:Ja st.same)(hk:∀r,kof r k=Mq st r):∀(l:List Az) (i:Nat),Lw st k i l=some (Tl st i l)
 | [],i=>rfl
 | f::l,i=>by
   unfold Lw;simp only [Vv hs hk,Qn hs hk l,Option.bind_eq_bind,Option.bind_some]
   rfl
def Wn(st:NS)(g:Ah):Xq:=⟨Cr ((st.seen.filter fun t=>Dt t&&Ft st t==false).map (·.2)),Cr ((st.seen.filter fun t=>Dt t&&Ft st t==true).map (·.2)),Tl st 0 g.funcs⟩
theorem GC{st:NS}{k:Cs}(hs:Ja st.same)(hk:∀r,kof r k=Mq st r)(g:Ah):DL st k g=some (Wn st g):=by
 unfold DL;simp only [Nf hs hk,Qn hs hk,Option.bind_eq_bind,Option.bind_some]
 rfl
/-! ### the program -/
def Mi(g:Ah):List Cy→Option Ic
 | []=>none
 |r::l=>((Cg g 0 r.kind 0 false 0 r.pats).or (Dg g 0 r.kind 0 r.body)).or (Mi g l)
def Ip(g:Ah):Nat→List Az→Option Ic
 |_,[]=>none
 |i,f::l=>(Dg g (i+1) 0 0 f.body).or (Ip g (i+1) l)
def LU(g:Ah):List Cy→List Ev
 | []=> []
 |r::l=>Nq g 0 r.pats++Xd g 0 r.body++LU g l
def Ou(g:Ah):Nat→List Az→List Ev
 |_,[]=> []
 |i,f::l=>f.params.map (fun s=> .reg (i+1,s))++Xd g (i+1) f.body++Ou g (i+1) l
def Fs:List Cy→Nat
 | []=>0
 |r::l=>Ar r.pats+Bo r.body+Fs l
def In:List Az→Nat
 | []=>0
 |f::l=>Bo f.body+In l
mutual
theorem BC(g:Ah){fn:Nat}(h:fn>0)(kd kd':Int):∀(n:Af) (lo:Int),Dg g fn kd lo n=Dg g fn kd' lo n
 | .mk k nm x kids re im,lo=>by
   rw [Dg,Dg,JC g h kd kd' kids];have:Iq g fn kd lo k nm kids re im=Iq g fn kd' lo k nm kids re im:=by unfold Iq;simp only [h,true_or]
   rw [this]
theorem JC(g:Ah){fn:Nat}(h:fn>0)(kd kd':Int):∀(l:List Af) (lo:Int) (lp:Bool) (i:Nat),Cg g fn kd lo lp i l=Cg g fn kd' lo lp i l
 | [],lo,lp,i=>by rw [Cg,Cg]
 |k::l,lo,lp,i=>by rw [Cg,Cg,BC g h kd kd' k,JC g h kd kd' l]
end
theorem CQ(rec:Cu):∀(l:List Af) (i:Nat) (st:NS),Qm rec l st=Ga rec false i l st
 | [],i,st=>rfl
 | k::l,i,st=>by
   have:Qv false i st k=st:=by simp [Qv]
   simp only [Qm,Ga,this]
   cases rec st k with
   |none=>rfl
   |some s=>exact CQ rec l (i+1) s
end Go.Proofs.YtkfillfkbhbbjaaGreatDoor
namespace Go.Proofs.YtkfillfkbhbbjaaGreatDoor
structure Zy (st st':NS) (x:Option Ic) (l:List Ev) (n:Nat):Prop where
 flt:Gn st'=(Gn st).or x
 ev:x=none→∃s,evs l {st with fn:=st'.fn,rule:=st'.rule,loops:=st'.loops}=some s∧st'=s
 grew:st'.uses.length≤st.uses.length+n∧st'.seen.length≤st.seen.length+n
 same:Ja st'.same
def Fm(st:NS)(f:Nat)(r l:Int):NS:={st with fn:=f,rule:=r,loops:=l}
theorem Sm(f:Nat)(r l:Int)(st:NS)(t:Ae):Bp (Fm st f r l) t=Fm (Bp st t) f r l:=by unfold Bp;split<;>rfl
theorem Ru(f:Nat)(r l:Int)(st:NS)(u:Kf):Hp (Fm st f r l) u=(Hp st u).map (Fm · f r l):=by
 show (if st.uses.length<400000 then some (Fm {st with uses:=st.uses++ [u]} f r l) else none)=(if st.uses.length<400000 then some {st with uses:=st.uses++ [u]} else none).map (Fm · f r l)
 split<;>rfl
theorem OQ(f:Nat)(r l:Int)(x:Ev)(st:NS):BU (Fm st f r l) x=(BU st x).map (Fm · f r l):=by
 cases x with
 |see t re im=>exact congrArg some (Sm f r l st t)
 |use t arr re im=>
  show Hp (Bp (Fm st f r l) t) _=(Hp (Bp st t) _).map _;rw [Sm,Ru]
 |kid p re im=>exact Ru f r l st _
 |bad re im=>exact Ru f r l st _
 |link a p re im=>
  show (Dl (Bp (Fm st f r l) a) a).bind (fun ra=>(Dl (Bp (Fm st f r l) a) p).bind fun rb=>some (if Oq ra rb then Bp (Fm st f r l) a else {Bp (Fm st f r l) a with same:=(Bp (Fm st f r l) a).same++ [(ra,rb)]}))=_;rw [Sm];show (Dl (Bp st a) a).bind (fun ra=>(Dl (Bp st a) p).bind fun rb=>some (if Oq ra rb then Fm (Bp st a) f r l else {Fm (Bp st a) f r l with same:=(Bp st a).same++ [(ra,rb)]}))=((Dl (Bp st a) a).bind fun ra=>(Dl (Bp st a) p).bind fun rb=>some (if Oq ra rb then Bp st a else {Bp st a with same:=(Bp st a).same++ [(ra,rb)]})).map (Fm · f r l);exact joe
 |reg t=>rfl
theorem Qy(f:Nat)(r l:Int):∀(x:List Ev) (st:NS),evs x (Fm st f r l)=(evs x st).map (Fm · f r l)
 | [],st=>rfl
 | x::xs,st=>by
   rw [Hi,Hi,OQ]
   cases BU st x with
   |none=>rfl
   |some s=>exact Qy f r l xs s
structure Aar (a b:NS):Prop where
 uses:a.uses=b.uses
 same:a.same=b.same
 seen:a.seen=b.seen
theorem Aar.eq{a b:NS}(h:Aar a b)(e:a.re=b.re∧a.im=b.im∧a.e=b.e):a=Fm b a.fn a.rule a.loops:=by
 obtain ⟨h1,h2,h3⟩:=h;obtain ⟨e1,e2,e3⟩:=e
 cases a;cases b;simp_all [Fm]
theorem Zy.refl{st:NS}(h:Ja st.same):Zy st st none [] 0:=⟨(Fh _).symm,fun _=>⟨st,rfl,rfl⟩,⟨Nat.le_refl _,Nat.le_refl _⟩,h⟩
theorem Zy.set{st:NS}(h:Ja st.same)(f:Nat)(r l:Int):Zy st (Fm st f r l) none [] 0:=⟨(Fh _).symm,fun _=>⟨_,rfl,rfl⟩,⟨Nat.le_refl _,Nat.le_refl _⟩,h⟩
theorem Zy.trans{a b c:NS}{x y:Option Ic}{l m:List Ev}{n k j:Nat}(h:Zy a b x l n)(g:Zy b c y m k)(hj:n+k≤j):Zy a c (x.or y) (l++m) j:=by
 refine ⟨by rw [g.flt,h.flt,Da],fun hn=> ?_, ?_,g.same⟩
 ·obtain ⟨hx,hy⟩:=Option.or_eq_none' hn;obtain ⟨s1,e1,rfl⟩:=h.ev hx;obtain ⟨s2,e2,rfl⟩:=g.ev hy;refine ⟨_, ?_,rfl⟩;rw [Jw];have e1':=Qy c.fn c.rule c.loops l (Fm a b.fn b.rule b.loops);replace e1:evs l (Fm a b.fn b.rule b.loops)=some b:=e1;rw [e1] at e1';replace e1':evs l (Fm a c.fn c.rule c.loops)=some (Fm b c.fn c.rule c.loops):=e1';show (evs l (Fm a c.fn c.rule c.loops)).bind (evs m)=some c;rw [e1'];exact e2
 have:=h.grew;have:=g.grew;omega
theorem CM{g:Ah}{fu:Nat}{n:Af}{st:NS}(hw:Yg n)(hf:Bo n≤fu)(hs:Ja st.same)(hu:st.uses.length+(2*Bo n -1)≤400000)(h0:0≤st.loops)(hl:st.loops+(Bo n:Int)≤900000):∃st',Jq g fu st n=some st'∧Mn st st'∧Zy st st' (Dg g st.fn st.rule st.loops n) (Xd g st.fn n) (2*Bo n):=by
 obtain ⟨st',h1,gr⟩:=Sk g fu n st hf hs hu h0 hl;have c:=Lg g fu n st st' hw h1;refine ⟨st',h1,c.1,c.2,fun hn=>⟨st', ?_,rfl⟩, ?_,gr.same⟩
 ·rw [c.1.1,c.1.2.1,c.1.2.2];exact Vz g fu n st st' hw h1 hn
 have:=gr.uses;have:=gr.seen;omega
theorem NW{g:Ah}{fu:Nat}:∀{l:List Af} {st:NS},Oy l→Ar l≤fu→Ja st.same→st.uses.length+2*Ar l≤400000→st.loops=0→Ar l≤900000→
  ∃st',Qm (Jq g fu) l st=some st'∧Mn st st'∧Zy st st' (Cg g st.fn st.rule st.loops false 0 l) (Nq g st.fn l) (2*Ar l)
 | l,st,hw,hf,hs,hu,h0,hl=>by
   rw [CQ _ l 0];obtain ⟨st',h1,gr⟩:=Of (Sk g fu) false l 0 st hf hs hu jh jh;have c:=Li (Lg g fu) false l 0 st st' hw h1;refine ⟨st',h1,c.1,c.2,fun hn=>⟨st', ?_,rfl⟩, ?_,gr.same⟩
   ·rw [c.1.1,c.1.2.1,c.1.2.2];exact Qr (Lg g fu) (Vz g fu) false l 0 st st' hw h1 hn
   have:=gr.uses;have:=gr.seen;omega
theorem Sb{g:Ah}{fu:Nat}:∀{l:List Cy} {st:NS},(∀r∈l,Oy r.pats∧Yg r.body)→Fs l≤fu→st.fn=0→Ja st.same→st.uses.length+2*Fs l≤400000→Fs l≤900000→
  ∃st',BN (Jq g fu) l st=some st'∧st'.fn=0∧Zy st st' (Mi g l) (LU g l) (2*Fs l)
 | [],st,_,_,h0,hs,_,_=>⟨st,rfl,h0,Zy.refl hs⟩
 | r::l,st,hw,hf,h0,hs,hu,hb=>by
   obtain ⟨hw1,hw2⟩:=hw r (List.mem_cons_self ..);rw [Fs] at hf hu hb⊢;have hn:=Ci r.body;obtain ⟨s1,e1,c1,r1⟩:=NW (g:=g) (fu:=fu) (st:=Fm st st.fn r.kind 0) hw1 jh hs (by show st.uses.length+_≤_;omega) rfl jh;have u1:=r1.grew.1;replace u1:s1.uses.length≤st.uses.length+2*Ar r.pats:=u1;obtain ⟨s2,e2,c2,r2⟩:=CM (g:=g) (fu:=fu) (st:=s1) hw2 jh r1.same jh (by rw [c1.2.2];exact Int.le_refl 0) (by rw [c1.2.2];show (0:Int)+_≤_;omega);have u2:=r2.grew.1;have hf2:s2.fn=0:=by rw [c2.1,c1.1];exact h0
   obtain ⟨s3,e3,h3,r3⟩:=Sb (g:=g) (fu:=fu) (l:=l) (st:=s2) (fun r hr=>hw r (List.mem_cons_of_mem _ hr)) jh hf2 r2.same jh jh;refine ⟨s3, ?_,h3, ?_⟩
   ·simp only [BN,Option.bind_eq_bind];show (Qm (Jq g fu) r.pats (Fm st st.fn r.kind 0)).bind _=_;rw [e1,Option.bind_some,e2,Option.bind_some,e3]
   rw [c1.1,c1.2.1,c1.2.2] at r2;have r1:Zy (Fm st st.fn r.kind 0) s1 (Cg g st.fn r.kind 0 false 0 r.pats) (Nq g st.fn r.pats) (2*Ar r.pats):=r1;have r2:Zy s1 s2 (Dg g st.fn r.kind 0 r.body) (Xd g st.fn r.body) (2*Bo r.body):=r2;have t:=(((Zy.set hs st.fn r.kind 0).trans r1 (Nat.le_refl _)).trans r2 (Nat.le_refl _)).trans r3 (j:=2*(Ar r.pats+Bo r.body+Fs l)) jh;rw [h0] at t;exact t
theorem JH(i:Nat):∀(l:List ByteArray) (st:NS),evs (l.map fun s=> .reg (i,s)) st=some st
 | [],st=>rfl
 |s::l,st=>by rw [List.map_cons,Hi];exact JH i l st
theorem TD{st:NS}(hs:Ja st.same)(i:Nat)(l:List ByteArray):Zy st st none (l.map fun s=> .reg (i,s)) 0:=⟨(Fh _).symm,fun _=>⟨st,JH i l st,rfl⟩,⟨Nat.le_refl _,Nat.le_refl _⟩,hs⟩
theorem Sc{g:Ah}{fu:Nat}:∀{l:List Az} {i:Nat} {st:NS},(∀f∈l,Yg f.body)→In l≤fu→Ja st.same→st.uses.length+2*In l≤400000→In l≤900000→
  ∃st',BO (Jq g fu) i l st=some st'∧Zy st st' (Ip g i l) (Ou g i l) (2*In l)
 | [],i,st,_,_,hs,_,_=>⟨st,rfl,Zy.refl hs⟩
 | f::l,i,st,hw,hf,hs,hu,hb=>by
   rw [In] at hf hu hb⊢;have hn:=Ci f.body;obtain ⟨s2,e2,c2,r2⟩:=CM (g:=g) (fu:=fu) (st:=Fm st (i+1) st.rule 0) (hw f (List.mem_cons_self ..)) jh hs (by show st.uses.length+_≤_;omega) (Int.le_refl 0) (by show (0:Int)+_≤_;omega);have u2:=r2.grew.1;replace u2:s2.uses.length≤st.uses.length+2*Bo f.body:=u2;obtain ⟨s3,e3,r3⟩:=Sc (g:=g) (fu:=fu) (l:=l) (i:=i+1) (st:=s2) (fun r hr=>hw r (List.mem_cons_of_mem _ hr)) jh r2.same jh jh;refine ⟨s3, ?_, ?_⟩
   ·simp only [BO,Option.bind_eq_bind];show (Jq g fu (Fm st (i+1) st.rule 0) f.body).bind _=_;rw [e2,Option.bind_some,e3]
   have r2:Zy (Fm st (i+1) st.rule 0) s2 (Dg g (i+1) st.rule 0 f.body) (Xd g (i+1) f.body) (2*Bo f.body):=r2;rw [BC g (Nat.succ_pos i) st.rule 0] at r2;exact (((Zy.set hs (i+1) st.rule 0).trans (TD (st:=Fm st (i+1) st.rule 0) hs (i+1) f.params) (Nat.le_refl _)).trans r2 (Nat.le_refl _)).trans r3 (j:=2*(Bo f.body+In l)) jh
end Go.Proofs.YtkfillfkbhbbjaaGreatDoor
