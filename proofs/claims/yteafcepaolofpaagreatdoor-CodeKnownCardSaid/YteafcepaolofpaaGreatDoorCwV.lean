/- Texts of this claim, joined: CwT, CwU, CwV. -/
import Derived.Test.YteafcepaolofpaaGreatDoorCwM
import Derived.Test.YteafcepaolofpaaGreatDoorCwC
import Derived.Test.YteafcepaolofpaaGreatDoorNamA
set_option maxRecDepth 100000
set_option maxHeartbeats 4000000
set_option linter.unusedSimpArgs false
set_option linter.unusedVariables false
set_option linter.unusedSectionVars false
section
/- A code in memory; Compile's plain form, over any way to write expressions and statements. -/
namespace Go.Proofs.YteafcepaolofpaaGreatDoor
open Go.RowKit
/-- Two lists, side by side. -/
inductive All2 {α β:Type} (R:α→β→Prop):List α→List β→Prop
  |nil:All2 R [] []
  |cons {a:α} {b:β} {l:List α} {m:List β} (h:R a b) (t:All2 R l m):All2 R (a::l) (b::m)
section
variable {α β:Type} {R R':α→β→Prop} {l:List α} {m:List β}
theorem All2.mono(h:∀a b,R a b→R' a b)(t:All2 R l m):All2 R' l m:=by
  induction t with
  |nil=>exact .nil
  |cons h1 _ ih=>exact .cons (h _ _ h1) ih
theorem All2.snoc(t:All2 R l m){a:α}{b:β}(h:R a b):All2 R (l++ [a]) (m++ [b]):=by
  induction t with
  |nil=>exact .cons h .nil
  |cons h1 _ ih=>exact .cons h1 ih
theorem All2.len(t:All2 R l m):l.length=m.length:=by
  induction t with
  |nil=>rfl
  |cons h1 _ ih=>simp [ih]
theorem All2.get(t:All2 R l m):∀i (h:i<l.length) (h':i<m.length),R l[i] m[i]:=by
  induction t with
  |nil=>intro i h;simp at h
  | cons h1 _ ih=>
    intro i h h'
    cases i with
    |zero=>exact h1
    |succ i=>exact ih i (by simpa using h) (by simpa using h')
end
abbrev SlT:=Option Addr×Nat×Nat
def slE(p:SlT):List Value:= [.slice p.1 p.2.1 p.2.2]
structure PtT where
  kind:Int
  n:Int
  pats:SlT
  body:SlT
  params:SlT
def ptE(p:PtT):List Value:= [.int .i64 p.kind,.int .i64 p.n,.slice p.pats.1 p.pats.2.1 p.pats.2.2,.slice p.body.1 p.body.2.1 p.body.2.2,.slice p.params.1 p.params.2.1 p.params.2.2]
theorem slL(x:SlT):(slE x).length=1:=rfl
theorem sl1(x:SlT):∀u∈slE x,u.oneCell'=true:=by intro u hu;simp [slE] at hu;rw [hu];rfl
theorem ptL(x:PtT):(ptE x).length=5:=rfl
theorem pt1(x:PtT):∀u∈ptE x,u.oneCell'=true:=by intro u hu;simp [ptE] at hu;rcases hu with rfl|rfl|rfl|rfl|rfl<;>rfl
theorem info43:∃i,Tryz.prog.info? 43=some i∧i.zero=some (.slice none 0 0)∧i.size=1∧i.bytes=24:=by
  have h:(Tryz.prog.info? 43).map (fun i=>(i.zero,i.size,i.bytes))=some (some (.slice none 0 0),1,24):=by kernel_rfl
  cases hi:Tryz.prog.info? 43 with
  |none=>rw [hi] at h;cases h
  |some i=>rw [hi] at h;simp at h;exact ⟨i,rfl,h.1,h.2.1,h.2.2⟩
theorem info46:∃i,Tryz.prog.info? 46=some i∧i.zero=some (.agg #[.int .i64 0,.int .i64 0,.slice none 0 0,.slice none 0 0,.slice none 0 0])∧i.size=5∧i.bytes=88:=by
  have h:(Tryz.prog.info? 46).map (fun i=>(i.zero,i.size,i.bytes))=some (some (.agg #[.int .i64 0,.int .i64 0,.slice none 0 0,.slice none 0 0,.slice none 0 0]),5,88):=by kernel_rfl
  cases hi:Tryz.prog.info? 46 with
  |none=>rw [hi] at h;cases h
  |some i=>rw [hi] at h;simp at h;exact ⟨i,rfl,h.1,h.2.1,h.2.2⟩
/-- Instructions, patterns, a part, where they lie. -/
def OutV(W:World)(p:SlT)(o:Out):Prop:=p.2.1=o.length∧∃b,RowD 50 5 inC W b o p.1 p.2.2
def PatsV(W:World)(p:SlT)(l:List Out):Prop:=p.2.1=l.length∧∃b vs,RowD 43 1 slE W b vs p.1 p.2.2∧All2 (OutV W) vs l
def PartV(W:World)(t:PtT)(p:PartP):Prop:=t.kind=p.kind∧t.n=p.n∧PatsV W t.pats p.pats∧OutV W t.body p.body
def PartsV(W:World)(b:Nat)(a:Option Addr)(cap:Nat)(l:List PartP):Prop:=∃ts,RowD 46 5 ptE W b ts a cap∧All2 (PartV W) ts l
/-- Blocks of these types stay. -/
def Stay(ts:List TypeId)(W W':World):Prop:=∀(g:Nat) (c:Array Value) (t:TypeId),W.heap[g]? =some (Obj.cells c t (0,0))→t∈ts→W'.heap[g]? =W.heap[g]?
theorem Stay.of{ts:List TypeId}{W W':World}(h:Keeps [] W W'):Stay ts W W':=fun g _ _ hg _=>h.block g (h_lt hg) (by simp)
theorem Stay.kt{ts us:List TypeId}{W W':World}(h:KT us W W')(hd:∀t∈ts,t∉us):Stay ts W W':=fun _ _ _ hg ht=>(h.at hg (hd _ ht)).trans hg.symm
theorem Stay.to{ts us:List TypeId}{W W':World}(h:Stay ts W W')(hs:∀t∈us,t∈ts):Stay us W W':=fun g c t hg ht=>h g c t hg (hs t ht)
theorem OutV.kp{W W':World}{p:SlT}{o:Out}(h:OutV W p o)(hs:Stay [50] W W'):OutV W' p o:=by
  obtain ⟨h1,b,h2⟩:=h
  exact ⟨h1,b,h2.kp fun g c hg _=>hs g c 50 hg (by simp)⟩
theorem PatsV.kp{W W':World}{p:SlT}{l:List Out}(h:PatsV W p l)(hs:Stay [50,43] W W'):PatsV W' p l:=by
  obtain ⟨h1,b,vs,h2,h3⟩:=h
  exact ⟨h1,b,vs,h2.kp fun g c hg _=>hs g c 43 hg (by simp),h3.mono fun _ _ h=>h.kp (hs.to (by simp))⟩
theorem PartV.kp{W W':World}{t:PtT}{p:PartP}(h:PartV W t p)(hs:Stay [50,43] W W'):PartV W' t p:=⟨h.1,h.2.1,h.2.2.1.kp hs,h.2.2.2.kp (hs.to (by simp))⟩
theorem PartsV.kp{W W':World}{b:Nat}{a:Option Addr}{cap:Nat}{l:List PartP}(h:PartsV W b a cap l)(hs:Stay [50,43,46] W W'):PartsV W' b a cap l:=by
  obtain ⟨ts,h1,h2⟩:=h
  exact ⟨ts,h1.kp fun g c hg _=>hs g c 46 hg (by simp),h2.mono fun _ _ h=>h.kp (hs.to (by simp))⟩
theorem pt_next{Wr wr w3 wa wb we:World}{X1 X gg cp vcp:Nat}{c1:Array Value}{kd n:Int}{va:Option Addr}{vs:List SlT}{dd:List Out}{x:SlT}{o:Out}(hX1:Wr.heap.size≤X)(hne:X1≠X)
    (h1:Keeps [] Wr wr) (h3:Keeps [] wr w3) (ha:Keeps [] w3 wa) (r1:wr.heap[X1]? =some (.cells c1 60 (0,0)))
    (r2:wr.heap[X]? =some (.cells #[.int .i64 kd,.int .i64 n,.slice va vs.length vcp,.slice none 0 0,.slice none 0 0] 46 (0,0))) (al:All2 (OutV wr) vs dd) (ho:OutV w3 x o)
    (hro:RowD 43 1 slE wb Wr.heap.size (vs++ [x]) (some ⟨gg,0,none⟩) cp) (hkt:KT [43] wa wb) (hk0:∀k,k<Wr.heap.size→wb.heap[k]? =wa.heap[k]?) (he:Keeps [X] wb we):
    Keeps [] Wr we∧we.heap[X1]? =some (.cells c1 60 (0,0))∧RowD 43 1 slE we Wr.heap.size (vs++ [x]) (some ⟨gg,0,none⟩) cp∧All2 (OutV we) (vs++ [x]) (dd++ [o]):=by
  have k13:=h3.trans (fp':= []) ha (by simp)
  have k1:=h1.trans (fp':= []) k13 (by simp)
  have xb:wb.heap[X]? =some (.cells #[.int .i64 kd,.int .i64 n,.slice va vs.length vcp,.slice none 0 0,.slice none 0 0] 46 (0,0)):=hkt.at (k13.at r2 (by simp)) (by simp)
  have ke:KT [46] wb we:=KT.ofOne he xb (by simp)
  have k2:KT [43,46] wa we:=by
    have up:∀{ts:List TypeId} {a b:World},KT ts a b→(∀t∈ts,t∈ [43,46])→KT [43,46] a b:=fun hk hs=>⟨hk.os,hk.tape,hk.output,hk.size,fun k hl hn=>hk.block k hl fun c t f hc hm=>hn c t f hc (hs t hm)⟩
    exact KT.trans (up hkt (by simp)) (up ke (by simp))
  refine ⟨⟨k2.os.trans k1.os,k2.tape.trans k1.tape,k2.output.trans k1.output,Nat.le_trans k1.size k2.size,fun k hk _=> ?_⟩, ?_,hro.kp fun g c hg _=>(ke.at hg (by simp)).trans hg.symm, ?_⟩
  · have s1:=k1.size;have s2:=hkt.size
    rw [he.block k (by omega) (by simp;omega),hk0 k hk]
    exact k1.block k hk (by simp)
  · exact k2.at (k13.at r1 (by simp)) (by simp)
  · have s:Stay [50] wa we:=Stay.kt k2 (by simp)
    exact (al.mono fun _ _ h=>(h.kp (Stay.of k13)).kp s).snoc ((ho.kp (Stay.of ha)).kp s)
theorem RowD.blk{α:Type}{t:TypeId}{size:Nat}{enc:α→List Value}{W W':World}{b:Nat}{l:List α}{a:Option Addr}{cap:Nat}(h:RowD t size enc W b l a cap)(hk:∀g,g<W.heap.size→W'.heap[g]? =W.heap[g]?):RowD t size enc W' b l a cap:=
  row_of_block h fun g hg=>by
    rcases h.2 with ⟨h1,-⟩|⟨g',cap',cur,h1,hb,hh,-⟩
    · simp at h1;rw [h1.1] at hg;simp [Value.ownBlock] at hg
    · simp at h1;rw [h1.1] at hg;simp [Value.ownBlock] at hg;subst hg;exact hk _ (h_lt hh)
theorem KT.up{ts us:List TypeId}{a b:World}(hk:KT ts a b)(hs:∀t∈ts,t∈us):KT us a b:=⟨hk.os,hk.tape,hk.output,hk.size,fun k hl hn=>hk.block k hl fun c t f hc hm=>hn c t f hc (hs t hm)⟩
theorem rl_next{W wo wr w4 w5 w6 we:World}{I C X gg cp:Nat}{c1 c0 cx:Array Value}{ts:List PtT}{d:List PartP}{x:PtT}{p:PartP}(hI:I≠C)(hWC:W.heap.size≤C)(hX:wo.heap.size≤X)
    (h0:Keeps [] W wo) (h1:Keeps [] wo wr) (h4:Keeps [] wr w4) (h5:Keeps [X] w4 w5) (rI:wo.heap[I]? =some (.cells c1 53 (0,0))) (rC:wo.heap[C]? =some (.cells c0 24 (0,0))) (rX:w4.heap[X]? =some (.cells cx 46 (0,0)))
    (al:All2 (PartV wo) ts d) (hp:PartV w4 x p) (hro:RowD 46 5 ptE w6 W.heap.size (ts++ [x]) (some ⟨gg,0,none⟩) cp) (hkt:KT [46] w5 w6) (hk0:∀k,k<W.heap.size→w6.heap[k]? =w5.heap[k]?) (he:Keeps [C] w6 we):
    Keeps [] W we∧we.heap[I]? =some (.cells c1 53 (0,0))∧RowD 46 5 ptE we W.heap.size (ts++ [x]) (some ⟨gg,0,none⟩) cp∧All2 (PartV we) (ts++ [x]) (d++ [p]):=by
  have k14:=h1.trans (fp':= []) h4 (by simp)
  have k5:KT [46] w4 w5:=KT.ofOne h5 rX (by simp)
  have rC6:w6.heap[C]? =some (.cells c0 24 (0,0)):=(k5.trans hkt).at (k14.at rC (by simp)) (by simp)
  have ke:KT [24] w6 we:=KT.ofOne he rC6 (by simp)
  have k4e:KT [46,24] w4 we:=((k5.trans hkt).up (by simp)).trans (ke.up (by simp))
  have k04:=h0.trans (fp':= []) k14 (by simp)
  have s:Stay [50,43] w4 we:=Stay.kt k4e (by simp)
  refine ⟨⟨k4e.os.trans k04.os,k4e.tape.trans k04.tape,k4e.output.trans k04.output,Nat.le_trans k04.size k4e.size,fun k hk _=> ?_⟩,k4e.at (k14.at rI (by simp)) (by simp),hro.kp fun g c hg _=>(ke.at hg (by simp)).trans hg.symm,(al.mono fun _ _ h=>(h.kp (Stay.of k14)).kp s).snoc (hp.kp s)⟩
  have s0:=h0.size;have s1:=k04.size;have s5:=h5.size;have s6:=hkt.size
  rw [he.block k (by omega) (by simp;omega),hk0 k hk,h5.block k (by omega) (by simp;omega)]
  exact k04.block k hk (by simp)
/-- A program's code, as a value; no functions. -/
def CodeV(W:World)(c:CodeP)(v:Value):Prop:=∃a cap b,v= .agg #[.slice a c.rules.length cap,.slice none 0 0,.int .i64 (c.scalars:Nat),.int .i64 (c.arrays:Nat)]∧PartsV W b a cap c.rules
theorem CodeV.kp{W W':World}{c:CodeP}{v:Value}(h:CodeV W c v)(hk:Keeps [] W W'):CodeV W' c v:=by
  obtain ⟨a,cap,b,h1,h2⟩:=h
  exact ⟨a,cap,b,h1,h2.kp (Stay.of hk)⟩

def patsG(ex:ERec):List Node→Option (List Out)
  | []=>some []
  | n::l=>do
    let o ←ex n []
    let r ←patsG ex l
    some (o::r)
def rulesG(ex st:ERec):List RuleP→Option (List PartP)
  | []=>some []
  | r::l=>do
    let ps ←patsG ex r.pats
    let b ←st r.body []
    let x ←rulesG ex st l
    some (⟨r.kind,r.n,ps,b,[]⟩::x)
def codeG(ex st:CEnv→ERec)(g:ProgP)(t:InfoP):Option CodeP:=
  if g.funcs.length=0∧t.params.length=0∧t.scalars.length≤1000000∧t.arrays.length≤1000000∧g.rules.length≤1000000∧(∀r∈g.rules,r.pats.length≤1000000) then
    (rulesG (ex ⟨g,t,0⟩) (st ⟨g,t,0⟩) g.rules).bind fun r=>some ⟨r,[],t.scalars.length,t.arrays.length⟩
  else none
/-- What names.Check tells of a program. -/
def ChkC(g:ProgP)(t:Told):Prop:=∀(w:World) (S:Nat→Prop) (v:Value),ProgV w S g v→Calls Tryz.prog 14 #[v] w fun r w'=>∃iv,r= .returned (.tuple #[iv,.complex .f64 t.re t.im,.int .i64 t.e])∧InfoV w' (fun g=>w.heap.size≤g) t.info iv∧Keeps [] w w'
/-- stmt, from a fresh writer. -/
def StG(K:WKey)(rec:ERec):Prop:=∀(n:Node) (o':Out),rec n []=some o'→∀v,NodeR K.w0 (fun _=>True) n v→∀W,CW K none 0 [] (.slice none 0 0) W→Calls Tryz.prog 16 #[.pointer (some ⟨K.c,0,none⟩),v] W fun r w'=>r= .returned (.tuple #[])∧∃oa oc lv,CW K oa oc o' lv w'
/-- A writer just made. -/
theorem CW.new(K:WKey)(hc:K.c=K.w0.heap.size):CW K none 0 [] (.slice none 0 0) (K.w0.alloc (wC K none 0 [] (.slice none 0 0))):=
  ⟨Keeps.alloc [] _ _,by rw [hc];exact h_new _ _,RowD.nil⟩
end Go.Proofs.YteafcepaolofpaaGreatDoor
end
section
/- Compile, where names.Check finds no fault. -/
namespace Go.Proofs.YteafcepaolofpaaGreatDoor
open Go.RowKit
/-- Rules done. -/
def RlI(ex st:ERec)(rules:List RuleP)(all:List PartP)(sl al:Nat)(W:World)(I C:Nat)(ic:Obj)(g:Nat)(j:Value)(wr:World):Prop:=
  ∃ k:Nat,j= .int .i64 k∧k≤rules.length∧rules.length+1=g+k∧Keeps [] W wr∧wr.heap[I]? =some ic∧
    ∃ra rc ts d r,wr.heap[C]? =some (.cells #[.slice ra ts.length rc,.slice none 0 0,.int .i64 sl,.int .i64 al] 24 (0,0))∧RowD 46 5 ptE wr W.heap.size ts ra rc∧All2 (PartV wr) ts d∧d.length=k∧rulesG ex st (rules.drop k)=some r∧d++r=all
/-- Patterns done. -/
def PtI(ex:ERec)(pats:List Node)(all:List Out)(kd n:Int)(Wr:World)(X1 X:Nat)(rcs:Obj)(g:Nat)(j:Value)(wr:World):Prop:=
  ∃ k:Nat,j= .int .i64 k∧k≤pats.length∧pats.length+1=g+k∧Keeps [] Wr wr∧wr.heap[X1]? =some rcs∧
    ∃va vc vs d r,wr.heap[X]? =some (.cells #[.int .i64 kd,.int .i64 n,.slice va vs.length vc,.slice none 0 0,.slice none 0 0] 46 (0,0))∧RowD 43 1 slE wr Wr.heap.size vs va vc∧All2 (OutV wr) vs d∧d.length=k∧patsG ex (pats.drop k)=some r∧d++r=all
theorem wfix_of{g:ProgP}{t:InfoP}{w0:World}{ra fa sa aa pa:Option Addr}{rc fc sc ac pc:Nat}(hf:SliceR FuncE w0 (fun _=>True) g.funcs (.slice fa g.funcs.length fc))(h1:SliceR StrE w0 (fun _=>True) t.scalars (.slice sa t.scalars.length sc))(h2:SliceR StrE w0 (fun _=>True) t.arrays (.slice aa t.arrays.length ac))(h3:SliceR FlagsE w0 (fun _=>True) t.params (.slice pa t.params.length pc))
    (q1:g.funcs.length=0) (q2:t.params.length=0) (q3:t.scalars.length≤1000000) (q4:t.arrays.length≤1000000):WFix ⟨⟨g,t,0⟩,w0,w0.heap.size,ra,rc,fa,fc,sa,sc,aa,ac,pa,pc⟩:=
  {funcs:=hf,scal:=h1,arr:=h2,pars:=h3,c:=Nat.le_refl _,small:=(by show g.funcs.length≤1000000;omega),psmall:=(fun f hf=>by have:g.funcs= []:=List.length_eq_zero_iff.1 q1;have hf:f∈g.funcs:=hf;rw [this] at hf;cases hf),ssmall:=q3,asmall:=q4,fn:=Nat.zero_le _,plen:=(by show t.params.length=g.funcs.length;omega),each:=(fun i h=>absurd h (by show ¬i<g.funcs.length;omega))}
theorem wcompile_ok{ex st:CEnv→ERec}{g:ProgP}{t:InfoP}{c:CodeP}{w:World}{v:Value}(hv:ProgV w (fun _=>True) g v)(hx:ChkC g ⟨t,0,0,0⟩)(hc:codeG ex st g t=some c)
    (hE:∀K,WFix K→K.E=⟨g,t,0⟩→ExC K (ex ⟨g,t,0⟩)) (hS:∀K,WFix K→K.E=⟨g,t,0⟩→StG K (st ⟨g,t,0⟩)):
    Calls Tryz.prog 6 #[v] w fun r w'=>∃cv,r= .returned (.tuple #[cv,.complex .f64 0 0,.int .i64 0])∧CodeV w' c cv∧Keeps [] w w':=by
  unfold codeG at hc
  split at hc
  rotate_left
  · cases hc
  rename_i hq
  obtain ⟨q1,q2,q3,q4,q5,q6⟩:=hq
  simp only [Option.bind_eq_some_iff] at hc
  obtain ⟨all,hall,hc⟩:=hc
  obtain rfl:=Option.some.inj hc
  have HE:=Lib.hid hE;have HS:=Lib.hid hS;have HA:=Lib.hid hall
  clear hE hS hall hc
  have HV:=Lib.hid hv
  obtain ⟨pa,pc,qa,qc,rfl,hr,hf⟩:=hv
  have HR:=Lib.hid hr;have HF:=Lib.hid hf;have HX:=Lib.hid hx;have HQ6:=Lib.hid q6;have HQ1:=Lib.hid q1;have HQ2:=Lib.hid q2
  clear hr hf hx q6 q1 q2
  go_enter Tryz.func6,Tryz.ntmps6
  go_wp2_with fail
  refine calls_at (fun V=>Keeps [] w V∧V.heap[w.heap.size]? =some (.cells #[.slice pa g.rules.length pc,.slice qa g.funcs.length qc] 32 (0,0))∧V.heap[w.heap.size+1]? =some (.cells #[.slice none 0 0,.slice none 0 0,.int .i64 0,.int .i64 0] 24 (0,0))) ⟨kps,cel,cel⟩ ?_
  rintro V ⟨hkV,hPV,hOV⟩
  refine (HX.out _ _ _ (HV.out.kp hkV (by simp))).mono ?_
  rintro r W ⟨iv,rfl,hiv,hk⟩
  obtain ⟨sa,sc,aa,ac,ia,ic,rfl,hi1,hi2,hi3⟩:=hiv
  have HP:=Lib.hid (show W.heap[w.heap.size]? =some (.cells #[.slice pa g.rules.length pc,.slice qa g.funcs.length qc] 32 (0,0)) from hk.at hPV (by simp))
  have HO:=Lib.hid (show W.heap[w.heap.size+1]? =some (.cells #[.slice none 0 0,.slice none 0 0,.int .i64 0,.int .i64 0] 24 (0,0)) from hk.at hOV (by simp))
  have HKW:=Lib.hid (show Keeps [] w W from hkV.trans (fp':= []) hk (by simp))
  have HI1:=Lib.hid (hi1.to strL (T:=fun _=>True) fun _ _=>trivial);have HI2:=Lib.hid (hi2.to strL (T:=fun _=>True) fun _ _=>trivial);have HI3:=Lib.hid (hi3.to flagsL (T:=fun _=>True) fun _ _=>trivial)
  clear hi1 hi2 hi3 hk hkV hPV hOV
  obtain ⟨P,hP⟩:∃P,w.heap.size=P:=⟨_,rfl⟩
  rw [hP] at HP HO⊢
  have lP:=h_lt HP.out;have lO:=h_lt HO.out
  have p0:=cell_of_heap HP.out 0;have p1:=cell_of_heap HP.out 1
  simp at p0 p1
  go_wp2_with fail
  go_loopg [40] (g.rules.length+1) (fun gg j wr=>RlI (ex ⟨g,t,0⟩) (st ⟨g,t,0⟩) g.rules all t.scalars.length t.arrays.length W W.heap.size (W.heap.size+1) (.cells #[.slice sa t.scalars.length sc,.slice aa t.arrays.length ac,.slice ia t.params.length ic] 53 (0,0)) gg j wr)

  case atStart=>exact ⟨0,rfl,Nat.zero_le _,rfl,kps,by simp only [hA,World.size_alloc,Nat.add_left_cancel_iff,Nat.left_eq_add,Nat.one_ne_zero,reduceIte],none,0,[],[],all,by simp only [hA,World.size_alloc,reduceIte];rfl,RowD.nil,.nil,rfl,HA.out,rfl⟩
  case round=>
    rename World=>wo
    obtain ⟨k,rfl,hk1,hk2,hkw,hI,ra,rc,ts,d,rr,hC,hrow,hd,hdl,hrl,hda⟩:=hrel
    have HROW:=Lib.hid hrow
    clear hrow
    by_cases hlt:k<g.rules.length
    · obtain ⟨f1,rfl⟩:∃f1,gk=f1+1:=⟨gk -1,by omega⟩
      obtain ⟨gr,o9,cap,cs,hv,-,hgr,⟨pa2,pc2,b0,b1,b2,b3,b4,rfl,hp,hn⟩,hcl⟩:=HR.out.get ruleL hlt
      obtain rfl:pa=some ⟨gr,o9,none⟩:=by injection hv
      have hkk:Keeps [] w wo:=HKW.out.trans (fp':= []) hkw (by simp)
      have hcl':∀j u,[Value.int .i64 g.rules[k].kind,.int .i64 g.rules[k].n,.slice pa2 g.rules[k].pats.length pc2,b0,b1,b2,b3,b4,.complex .f64 g.rules[k].re g.rules[k].im][j]? =some u→wo.cell? ⟨gr,o9+k*9+j,none⟩=some u:=fun j u hj=>by
        rw [World.cell?_of_block (w:=w) (a:=⟨gr,o9+k*9+j,none⟩) (hkk.block gr hgr (by simp)),Nat.add_assoc];exact hcl j u hj
      obtain ⟨na,nc,hb,hkd⟩:=hn.full
      simp only [Value.agg.injEq,Array.mk.injEq,List.cons.injEq,and_true] at hb
      obtain ⟨rfl,rfl,rfl,rfl,rfl⟩:=hb
      have hpl:g.rules[k].pats.length≤1000000:=HQ6.out _ (List.getElem_mem hlt)
      rw [List.drop_eq_getElem_cons hlt,rulesG] at hrl
      simp only [Option.bind_eq_bind,Option.bind_eq_some_iff,Option.some.injEq] at hrl
      obtain ⟨ps,hps,bo,hbo,xs,hxs,rfl⟩:=hrl
      generalize g.rules[k]=q at*
      have d0:=hcl' 0 _ rfl;have d1:=hcl' 1 _ rfl;have d2:=hcl' 2 _ rfl;have d3:=hcl' 3 _ rfl;have d4:=hcl' 4 _ rfl;have d5:=hcl' 5 _ rfl;have d6:=hcl' 6 _ rfl;have d7:=hcl' 7 _ rfl;have d8:=hcl' 8 _ rfl
      simp only [Nat.add_zero] at d0
      have lgr:=lt_cell d0
      have HKK:=Lib.hid hkk;have HKWR:=Lib.hid hkw;have HIr:=Lib.hid hI;have HCr:=Lib.hid hC;have HD:=Lib.hid hd;have HDL:=Lib.hid hdl;have HDA:=Lib.hid hda;have HPS:=Lib.hid hps;have HBO:=Lib.hid hbo;have HXS:=Lib.hid hxs
      have HN:=Lib.hid hn;have HPK:=Lib.hid hp
      clear hkk hkw hI hC hd hdl hda hps hbo hxs hn hp hcl hcl' hv hkd
      go_wp2_with fail
      go_loopg [52] (q.pats.length+1) (fun gg j w2=>PtI (ex ⟨g,t,0⟩) q.pats ps q.kind q.n wo wo.heap.size (wo.heap.size+1) (.cells #[.int .i64 q.kind,.int .i64 q.n,.slice pa2 q.pats.length pc2,.int .i64 q.body.kind,.string q.body.name,.float .f64 q.body.num,.slice na q.body.kids.length nc,.complex .f64 q.body.re q.body.im,.complex .f64 q.re q.im] 60 (0,0)) gg j w2)
      case atStart=>exact ⟨0,rfl,Nat.zero_le _,rfl,kps,by simp only [hA,World.size_alloc,Nat.add_left_cancel_iff,Nat.left_eq_add,Nat.one_ne_zero,reduceIte],none,0,[],[],ps,by simp only [hA,World.size_alloc,reduceIte];rfl,RowD.nil,.nil,rfl,HPS.out,rfl⟩
      case round=>
        obtain ⟨m,rfl,hm1,hm2,hkm,hX1,va,vc,vs,dd,r2,hX,hvr,hvs,hdl2,hps2,hdd⟩:=hrel
        have hkw2:=HKWR.out.trans (fp':= []) hkm (by simp)
        have HP2:=Lib.hid (hkw2.at HP.out (by simp));have HI2r:=Lib.hid (hkm.at HIr.out (by simp))
        have p0:=cell_of_heap HP2.out 0;have p1:=cell_of_heap HP2.out 1;have lP2:=h_lt HP2.out
        have i0:=cell_of_heap HI2r.out 0;have i1:=cell_of_heap HI2r.out 1;have i2:=cell_of_heap HI2r.out 2;have lI2:=h_lt HI2r.out
        simp at p0 p1 i0 i1 i2
        by_cases hlt2:m<q.pats.length
        · obtain ⟨g2,o2,na2,nc2,rfl,hnd,hn2⟩:=kidAt (HKK.out.trans (fp':= []) hkm (by simp)) HPK.out hlt2
          rw [List.drop_eq_getElem_cons hlt2,patsG] at hps2
          simp only [Option.bind_eq_bind,Option.bind_eq_some_iff,Option.some.injEq] at hps2
          obtain ⟨ou,hou,xs2,hxs2,rfl⟩:=hps2
          generalize q.pats[m]=e at*
          have HOU:=Lib.hid hou;have HXS2:=Lib.hid hxs2;have HN2:=Lib.hid hn2;have HKM:=Lib.hid hkm;have HX1:=Lib.hid hX1;have HXX:=Lib.hid hX;have HVR:=Lib.hid hvr;have HVS:=Lib.hid hvs;have HDL2:=Lib.hid hdl2;have HDD:=Lib.hid hdd
          clear hou hxs2 hn2 hkm hX1 hX hvr hvs hdl2 hdd hkw2
          cases gk with
          |zero=>omega
          | succ f=>
            go_wp2_with fail
            have hKw:=HKK.out.trans (fp':= []) (HKM.out.trans (fp':= []) (kA (k0 [] wr) (.cells #[.int .i64 e.kind,.string e.name,.float .f64 e.num,.slice na2 e.kids.length nc2,.complex .f64 e.re e.im] 58)) (by simp)) (by simp)
            obtain ⟨K,hKE,hK,hKw0,hKc⟩:∃K:WKey,K=⟨⟨g,t,0⟩,wr.alloc (.cells #[.int .i64 e.kind,.string e.name,.float .f64 e.num,.slice na2 e.kids.length nc2,.complex .f64 e.re e.im] 58),(wr.alloc (.cells #[.int .i64 e.kind,.string e.name,.float .f64 e.num,.slice na2 e.kids.length nc2,.complex .f64 e.re e.im] 58)).heap.size,some ⟨gr,o9,none⟩,pc,qa,qc,sa,sc,aa,ac,ia,ic⟩∧WFix K∧K.w0=wr.alloc (.cells #[.int .i64 e.kind,.string e.name,.float .f64 e.num,.slice na2 e.kids.length nc2,.complex .f64 e.re e.im] 58)∧K.c=(wr.alloc (.cells #[.int .i64 e.kind,.string e.name,.float .f64 e.num,.slice na2 e.kids.length nc2,.complex .f64 e.re e.im] 58)).heap.size:=
              ⟨_,rfl,wfix_of (HF.out.kp funcL hKw (by simp)) (HI1.out.kp strL (HKWR.out.trans (fp':= []) (HKM.out.trans (fp':= []) (kA (k0 [] wr) _) (by simp)) (by simp)) (by simp)) (HI2.out.kp strL (HKWR.out.trans (fp':= []) (HKM.out.trans (fp':= []) (kA (k0 [] wr) _) (by simp)) (by simp)) (by simp)) (HI3.out.kp flagsL (HKWR.out.trans (fp':= []) (HKM.out.trans (fp':= []) (kA (k0 [] wr) _) (by simp)) (by simp)) (by simp)) HQ1.out HQ2.out q3 q4,rfl,rfl⟩
            have hc1:wr.heap.size+1=K.c:=by rw [hKc,World.size_alloc]
            have hk0w:Keeps [] wr K.w0:=by rw [hKw0];exact kA (k0 [] wr) _
            rw [hc1]
            refine calls_at (fun V=>CW K none 0 [] (.slice none 0 0) V) (by subst hKE;exact CW.new _ rfl) ?_
            rintro V hcw
            refine (HE.out K hK (by rw [hKE]) _ _ _ HOU.out _ (HN2.out.kp (by rw [hKw0];exact hKw) (by simp)) _ _ _ _ hcw).mono ?_
            rintro r w3 ⟨rfl,⟨oa,oc,hcw3⟩,-⟩
            have HC3:=Lib.hid hcw3
            have HK3:=Lib.hid (hk0w.trans (fp':= []) hcw3.keep (by simp))
            have hX3:=HK3.out.at HXX.out (by simp)
            have HVR3:=Lib.hid (HVR.out.kp (W':=w3) fun g c hg _=>HK3.out.block g (h_lt hg) (by simp))
            have HSZ:=Lib.hid (Nat.le_trans HKM.out.size HK3.out.size)
            have c6:=cell_of_heap hcw3.row 6;have lc:=h_lt hcw3.row
            have x2:=cell_of_heap hX3 2;have z2:=frozen_of_heap hX3 2;have lX:=h_lt hX3
            have HX3:=Lib.hid hX3
            simp at c6 x2
            have hvl:vs.length≤4000000:=by have:=HVS.out.len;have:=HDL2.out;omega
            obtain ⟨i43,hi43⟩:=info43
            have HI43:=Lib.hid hi43
            clear hcw hcw3 hX3 hk0w hKw hKE hKw0 hKc hc1 hK hi43 p0 p1 i0 i1 i2 hnd lP2 lI2
            go_wp2_with fail
            go_region_law (refine step_at (fun U=>Keeps [] w3 U∧U.heap[w3.heap.size]? =some (.cells (slE (oa,ou.length,oc)).toArray 43 (0,0))) ⟨kps,cel⟩ ?_;rintro wa ⟨hka,cG⟩;refine row_step slL sl1 rfl (.tmp 64) (.tmp 69) rfl Tryz.underlying42 HI43.out.1 HI43.out.2.1 HI43.out.2.2.1 HI43.out.2.2.2 rfl (by decide) (by decide) rfl rfl (HVR3.out.kp fun g c hg _=>hka.block g (h_lt hg) (by simp)) (x:=(oa,ou.length,oc)) ⟨_,cG⟩ (Nat.le_trans HSZ.out hka.size) hvl ?_;rintro gg cp wb ⟨hro,hkt,-,hk0,-,-⟩;have HRO:=Lib.hid hro;have HKT:=Lib.hid hkt;have HK0:=Lib.hid hk0;have HKA:=Lib.hid hka;clear hro hk0 cG;have rX:=hkt.at (hka.at HX3.out (by simp)) (by simp);clear hka hkt;have lbX:=h_lt rX;have b2:=cell_of_heap rX 2;have v2:=frozen_of_heap rX 2;simp at b2;have HRX:=Lib.hid rX;clear rX x2 z2 lX c6 lc)
            all_goals
              go_wp2_with fail
              go_roundg f
              case measure=>omega
              case rel=>
                have hn:=pt_next (X:=wo.heap.size+1) (X1:=wo.heap.size) (Nat.le_succ _) (by omega) HKM.out HK3.out HKA.out HX1.out HXX.out HVS.out ⟨rfl,_,HC3.out.out⟩ HRO.out HKT.out HK0.out (we:=wb.setCell ⟨wo.heap.size+1,2,none⟩ (.slice (some ⟨gg,0,none⟩) (vs.length+1) cp)) kps
                refine ⟨m+1,by first|rfl|(simp;done)|(simp;omega),by omega,by omega,hn.1,hn.2.1,_,_,vs++ [(oa,ou.length,oc)],dd++ [ou],xs2, ?_,hn.2.2.1,hn.2.2.2,by simp [HDL2.out],HXS2.out,by rw [List.append_assoc];exact HDD.out⟩
                rw [List.length_append,List.length_singleton]
                exact celx HRX.out
        · have hme:m=q.pats.length:=by omega
          subst hme
          rw [List.drop_length,patsG] at hps2
          obtain rfl:=Option.some.inj hps2
          rw [List.append_nil] at hdd
          subst hdd
          have HKM:=Lib.hid hkm;have HX1:=Lib.hid hX1;have HXX:=Lib.hid hX;have HVR:=Lib.hid hvr;have HVS:=Lib.hid hvs;have HDL2:=Lib.hid hdl2
          have x3:=cell_of_heap hX1 3;have x4:=cell_of_heap hX1 4;have x5:=cell_of_heap hX1 5;have x6:=cell_of_heap hX1 6;have x7:=cell_of_heap hX1 7;have lX1:=h_lt hX1
          simp at x3 x4 x5 x6 x7
          have HKW2:=Lib.hid (HKK.out.trans (fp':= []) hkm (by simp))
          clear hkm hX1 hX hvr hvs hdl2 hps2
          go_wp2_with fail
          obtain ⟨K,hKE,hK,hKw0,hKc⟩:∃K:WKey,K=⟨⟨g,t,0⟩,wr,wr.heap.size,some ⟨gr,o9,none⟩,pc,qa,qc,sa,sc,aa,ac,ia,ic⟩∧WFix K∧K.w0=wr∧K.c=wr.heap.size:=
            ⟨_,rfl,wfix_of (HF.out.kp funcL HKW2.out (by simp)) (HI1.out.kp strL hkw2 (by simp)) (HI2.out.kp strL hkw2 (by simp)) (HI3.out.kp flagsL hkw2 (by simp)) HQ1.out HQ2.out q3 q4,rfl,rfl⟩
          have hc1:wr.heap.size=K.c:=hKc.symm
          rw [hc1]
          refine calls_at (fun V=>CW K none 0 [] (.slice none 0 0) V) (by subst hKE;exact CW.new _ rfl) ?_
          rintro V hcw
          refine (HS.out K hK (by rw [hKE]) _ _ HBO.out _ (HN.out.kp (by rw [hKw0];exact HKW2.out) (by simp)) _ hcw).mono ?_
          rintro r w4 ⟨rfl,oa,oc,lv,hcw4⟩
          have HC4:=Lib.hid hcw4
          have HK4:=Lib.hid (show Keeps [] wr w4 from hKw0▸hcw4.keep)
          have hX4:=HK4.out.at HXX.out (by simp)
          have hCC4:=HK4.out.at (HKM.out.at HCr.out (by simp)) (by simp)
          have c6:=cell_of_heap hcw4.row 6;have lc:=h_lt hcw4.row
          have x0:=cell_of_heap hX4 0;have x1:=cell_of_heap hX4 1;have x2:=cell_of_heap hX4 2;have x3:=cell_of_heap hX4 3;have x4:=cell_of_heap hX4 4;have z3:=frozen_of_heap hX4 3;have lX:=h_lt hX4
          have cc0:=cell_of_heap hCC4 0;have cz0:=frozen_of_heap hCC4 0;have lC:=h_lt hCC4
          have HX4:=Lib.hid hX4;have HCC4:=Lib.hid hCC4
          simp at c6 x0 x1 x2 x3 x4 cc0
          have hneC:W.heap.size+1≠wo.heap.size+1:=by have:=h_lt HCr.out;omega
          have hneC2:wo.heap.size+1≠W.heap.size+1:=fun h=>hneC h.symm
          have hneC3:W.heap.size≠wo.heap.size:=fun h=>hneC (by rw [h])
          have hneC4:wo.heap.size≠W.heap.size:=fun h=>hneC3 h.symm
          have htl:ts.length≤4000000:=by have:=HD.out.len;have:=HDL.out;omega
          obtain ⟨i46,hi46⟩:=info46
          have HI46:=Lib.hid hi46
          clear hcw hcw4 hX4 hCC4 hKw0 hKc hc1 hK hi46 hKE p0 p1 i0 i1 i2 lP2 lI2 x5 x6 x7 lX1 hkw2
          go_wp2_with (
            at_builtin
            go_loud (
              refine list_at (fun U=>Keeps [wo.heap.size+1] w4 U∧U.heap[w4.heap.size]? =some (.cells (ptE ⟨q.kind,q.n,(va,vs.length,vc),(oa,bo.length,oc),(none,0,0)⟩).toArray 46 (0,0))) ⟨kps,cel⟩ ?_
              rintro w5 ⟨hk5,cG⟩
              have HK5:=Lib.hid hk5
              have h14:=HKM.out.trans (fp':= []) HK4.out (by simp)
              have hro5:=HROW.out.blk (W':=w5) fun g hg=>(hk5.block g (Nat.lt_of_lt_of_le hg h14.size) (by simp;omega)).trans (h14.block g hg (by simp))
              have hsz5:=Nat.le_trans (Nat.le_trans HKWR.out.size h14.size) hk5.size
              clear hk5 h14
              refine row_app ptL pt1 rfl (.tmp 87) (.tmp 89) rfl Tryz.underlying22 HI46.out.1 HI46.out.2.1 HI46.out.2.2.1 HI46.out.2.2.2 rfl (by decide) (by decide) rfl rfl hro5 (x:=⟨q.kind,q.n,(va,vs.length,vc),(oa,bo.length,oc),(none,0,0)⟩) ⟨_,cG⟩ hsz5 htl ?_))
          intro gg cp w6 hro hkt hgt hk0 hk5 hk6
          have HRO:=Lib.hid hro;have HKT:=Lib.hid hkt;have HK0:=Lib.hid hk0
          have rC6:=HKT.out.at (HK5.out.at HCC4.out (by simp;exact hneC3)) (by simp)
          have HRC:=Lib.hid rC6
          have e0:=cell_of_heap rC6 0;have ez0:=frozen_of_heap rC6 0;have lC6:=h_lt rC6
          simp at e0
          clear hro hkt hgt hk0 hk5 hk6 rC6 x0 x1 x2 x3 x4 z3 lX cc0 cz0 lC c6 lc
          go_wp2_with fail
          go_roundg f1
          case measure=>omega
          case rel=>
            have hn:=rl_next (I:=W.heap.size) (C:=W.heap.size+1) (X:=wo.heap.size+1) (by omega) (Nat.le_succ _) (Nat.le_succ _) HKWR.out HKM.out HK4.out HK5.out HIr.out HCr.out HX4.out HD.out (p:=⟨q.kind,q.n,dd,bo,[]⟩) ⟨rfl,rfl,⟨HVS.out.len,_,vs,HVR.out.kp fun g c hg _=>HK4.out.block g (h_lt hg) (by simp),HVS.out.mono fun _ _ h=>h.kp (Stay.of HK4.out)⟩,⟨rfl,_,HC4.out.out⟩⟩ HRO.out HKT.out HK0.out (we:=w6.setCell ⟨W.heap.size+1,0,none⟩ (.slice (some ⟨gg,0,none⟩) (ts.length+1) cp)) kps
            refine ⟨k+1,by first|rfl|(simp;done)|(simp;omega),by omega,by omega,hn.1,hn.2.1,_,_,_,_,xs, ?_,hn.2.2.1,hn.2.2.2,by simp [HDL.out],HXS.out,by rw [List.append_assoc];exact HDA.out⟩
            rw [List.length_append,List.length_singleton]
            exact celx HRC.out
    · have hke:k=g.rules.length:=by omega
      subst hke
      rw [List.drop_length,rulesG] at hrl
      obtain rfl:=Option.some.inj hrl
      rw [List.append_nil] at hda
      subst hda
      have HPo:=Lib.hid (hkw.at HP.out (by simp));have HOo:=Lib.hid (hkw.at HO.out (by simp))
      have p0:=cell_of_heap HPo.out 0;have p1:=cell_of_heap HPo.out 1;have lPo:=h_lt HPo.out
      have c0:=cell_of_heap hC 0;have c1:=cell_of_heap hC 1;have c2:=cell_of_heap hC 2;have c3:=cell_of_heap hC 3;have lC:=h_lt hC
      simp at p0 p1 c0 c1 c2 c3
      have HKo:=Lib.hid (HKW.out.trans (fp':= []) hkw (by simp));have HD:=Lib.hid hd;have HDL:=Lib.hid hdl
      have hq1:=HQ1.out
      clear hkw hd hdl hI hC hrl
      go_wp2_with fail
      go_loopg [96] 1 (fun gg j we=>j= .int .i64 0∧gg=1∧we=wo)
      case atStart=>exact ⟨rfl,rfl,rfl⟩
      case round=>
        obtain ⟨rfl,rfl,rfl⟩:=hrel
        go_wp2_with ((with_reducible show wpList _ _ _ (Oper.mk none (.store 24 _ _) _ _ _ _::_) _ _);refine stT 24 (P+1) 0 #[.slice none 0 0,.slice none 0 0,.int .i64 0,.int .i64 0] HOo.out rfl (.agg #[.slice ra ts.length rc,.slice none 0 0,.int .i64 (t.scalars.length:Nat),.int .i64 (t.arrays.length:Nat)]) rfl (by kernel_rfl) (by simp [Value.cells]) (by simp [Value.cells,Value.oneCell']) ?_)
        intro w2 hs2
        have HKS:=Lib.hid hs2.keeps
        have hr2:=hs2.row
        clear hs2
        go_wp2_with fail
        refine ret_at (v:= .tuple #[.agg #[.slice ra ts.length rc,.slice none 0 0,.int .i64 (t.scalars.length:Nat),.int .i64 (t.arrays.length:Nat)],.complex .f64 0 0,.int .i64 0]) (fun U=>U=w2) rfl (fun w1 hW=>by
          subst hW
          have x0:=cell_of_heap hr2 0
          have x1:=cell_of_heap hr2 1
          have x2:=cell_of_heap hr2 2
          have x3:=cell_of_heap hr2 3
          simp [Value.cells] at x0 x1 x2 x3
          simp [results,Tryz.results6,go_sem,x0,x1,x2,x3]) rfl (fun w1 hW=> ?_)
        subst hW
        have hkt:KT [24] _ w1:=KT.ofOne HKS.out HOo.out (by simp)
        refine ⟨_,rfl,⟨ra,rc,W.heap.size,by rw [HD.out.len],ts,HROW.out.kp fun g c hg _=>(hkt.at hg (by simp)).trans hg.symm,HD.out.mono fun _ _ h=>h.kp (Stay.kt hkt (by simp))⟩,HKo.out.trans HKS.out (by intro x hx;simp at hx;right;omega)⟩
end Go.Proofs.YteafcepaolofpaaGreatDoor
end
section
/- Compile, where names.Check finds a fault. -/
namespace Go.Proofs.YteafcepaolofpaaGreatDoor
open Go.RowKit
theorem wcompile_no{g:ProgP}{t:Told}{w:World}{v:Value}(hv:ProgV w (fun _=>True) g v)(hx:ChkC g t)(he:t.e≠0):
    Calls Tryz.prog 6 #[v] w fun r w'=>r= .returned (.tuple #[.agg #[.slice none 0 0,.slice none 0 0,.int .i64 0,.int .i64 0],.complex .f64 t.re t.im,.int .i64 t.e])∧Keeps [] w w':=by
  have HV:=Lib.hid hv
  obtain ⟨pa,pc,qa,qc,rfl,hr,hf⟩:=hv
  have HX:=Lib.hid hx
  have heb:(t.e !=0)=true:=by simp [he]
  clear hr hf hx he
  go_enter Tryz.func6,Tryz.ntmps6
  go_wp2_with fail
  refine calls_at (fun V=>Keeps [] w V∧V.heap[w.heap.size+1]? =some (.cells #[.slice none 0 0,.slice none 0 0,.int .i64 0,.int .i64 0] 24 (0,0))) ⟨kps,cel⟩ ?_
  rintro V ⟨hkV,hOV⟩
  refine (HX.out _ _ _ (HV.out.kp hkV (by simp))).mono ?_
  rintro r W ⟨iv,rfl,hiv,hk⟩
  obtain ⟨sa,sc,aa,ac,ia,ic,rfl,-,-,-⟩:=hiv
  have HO:=Lib.hid (show W.heap[w.heap.size+1]? =some (.cells #[.slice none 0 0,.slice none 0 0,.int .i64 0,.int .i64 0] 24 (0,0)) from hk.at hOV (by simp))
  have HKW:=Lib.hid (show Keeps [] w W from hkV.trans (fp':= []) hk (by simp))
  clear hk hkV hOV
  have lO:=h_lt HO.out
  go_wp2_with ((with_reducible show wpList _ _ _ (Oper.mk none (.store 24 _ _) _ _ _ _::_) _ _);refine stT 24 (w.heap.size+1) 0 #[.slice none 0 0,.slice none 0 0,.int .i64 0,.int .i64 0] ((kA (k0 [] W) _).at HO.out (by simp)) rfl (.agg #[.slice none 0 0,.slice none 0 0,.int .i64 0,.int .i64 0]) rfl (by kernel_rfl) (by simp [Value.cells]) (by simp [Value.cells,Value.oneCell']) ?_)
  intro w2 hs2
  have HKS:=Lib.hid (show Keeps [w.heap.size+1] W w2 from Keeps.trans (fp':= [w.heap.size+1]) kps hs2.keeps (by simp))
  have hr2:=hs2.row
  clear hs2
  go_wp2_with fail
  refine ret_at (v:= .tuple #[.agg #[.slice none 0 0,.slice none 0 0,.int .i64 0,.int .i64 0],.complex .f64 t.re t.im,.int .i64 t.e]) (fun U=>U=w2) rfl (fun w1 hW=>by
    subst hW
    have x0:=cell_of_heap hr2 0
    have x1:=cell_of_heap hr2 1
    have x2:=cell_of_heap hr2 2
    have x3:=cell_of_heap hr2 3
    simp [Value.cells] at x0 x1 x2 x3
    simp [results,Tryz.results6,go_sem,x0,x1,x2,x3]) rfl (fun w1 hW=> ?_)
  subst hW
  exact ⟨rfl,HKW.out.trans HKS.out (by intro x hx;simp at hx;right;omega)⟩
end Go.Proofs.YteafcepaolofpaaGreatDoor
end
