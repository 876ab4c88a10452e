/- Texts of this claim, joined: NSpec, Re8, Re9, ReA. -/
import Derived.Test.YteafcepaolofpaaGreatDoorThings
set_option maxRecDepth 100000
set_option maxHeartbeats 4000000
set_option linter.unusedSimpArgs false
set_option linter.unusedVariables false
set_option linter.unusedSectionVars false
section
/- names.Check, said plainly (none: something grows beyond a bound, or the fuel is out). -/
namespace Go.Proofs.YteafcepaolofpaaGreatDoor

def Node.name:Node→ByteArray
  | .mk _ n _ _ _ _=>n
def Node.kids:Node→List Node
  | .mk _ _ _ k _ _=>k

structure Use where
  re:Nat
  im:Nat
  of:Thing
  array:Bool
  param:Thing
  kid:Bool
  bad:Bool
/-- The checker, but for the program and its functions' names. -/
structure NS where
  fn:Nat
  rule:Int
  loops:Int
  uses:List Use
  same:List (Thing×Thing)
  seen:List Thing
  re:Nat
  im:Nat
  e:Int

def specials:List ByteArray:= [bs [78,82],bs [78,70],bs [70,83],bs [79,70,83],bs [79,82,83],bs [82,83],bs [83,85,66,83,69,80],bs [67,79,78,86,70,77,84],bs [79,70,77,84],bs [82,83,84,65,82,84],bs [82,76,69,78,71,84,72],bs [78,79,87],bs [71,65,80,83]]
def memB(s:ByteArray):List ByteArray→Bool
  | []=>false
  |x::l=>if same s x then true else memB s l
def specialF(s:ByteArray):Bool:=memB s specials

/-- The number (from 1 on) of the first function of that name; 0: there is none. -/
def flookA(name:ByteArray):List FuncP→Nat→Nat
  | [],_=>0
  |f::l,i=>if same name f.name then i+1 else flookA name l (i+1)
def flook(g:ProgP)(name:ByteArray):Nat:=flookA name g.funcs 0
def paramsOf(g:ProgP)(fn:Nat):List ByteArray:=match g.funcs[fn -1]? with
  |some f=>f.params
  |none=> []

def teq(a b:Thing):Bool:=a.1==b.1&&Go.Proofs.YteafcepaolofpaaGreatDoor.same a.2 b.2
def alook(k:Thing):List (Thing×Thing)→Option Thing
  | []=>none
  |x::l=>if teq k x.1 then some x.2 else alook k l
def rootF(m:List (Thing×Thing)):Nat→Thing→Option Thing
  |0,_=>none
  | f+1,t=>match alook t m with
    |none=>some t
    |some u=>rootF m f u
def rootN(st:NS)(t:Thing):Option Thing:=rootF st.same (st.same.length+1) t
def tmem(t:Thing):List Thing→Bool
  | []=>false
  |x::l=>if teq t x then true else tmem t l
def seePut(st:NS)(t:Thing):NS:={st with seen:=if tmem t st.seen then st.seen else st.seen++ [t]}

def faultF(st:NS)(re im:Nat)(e:Int):NS:=if st.e=0 then {st with re:=re,im:=im,e:=e} else st
def ofF(g:ProgP)(st:NS)(name:ByteArray):Thing×NS:=
  if st.fn>0∧memB name (paramsOf g st.fn)=true then ((st.fn,name),st) else ((0,name),seePut st (0,name))
def namedF(g:ProgP)(st:NS)(n:Node):NS:=if flook g n.name>0 then faultF st n.re n.im 28 else st
def useF(st:NS)(u:Use):Option NS:=if st.uses.length<400000 then some {st with uses:=st.uses++ [u]} else none
def noT:Thing:=(0,bs [])

/-- heads: what is asked of the parameters ahead (l) of one (s). -/
def headP(f:FuncP)(s:ByteArray):List ByteArray→NS→NS
  | [],st=>st
  |t::l,st=>headP f s l (if same t s then faultF st f.re f.im 29 else st)
def headPs(g:ProgP)(i:Nat)(f:FuncP):List ByteArray→List ByteArray→NS→NS
  |_,[],st=>st
  | pre,s::l,st=>
    let st:=headP f s pre st
    let st:=if specialF s||decide (flook g s>0) then faultF st f.re f.im 28 else st
    headPs g i f (pre++ [s]) l (seePut st (i+1,s))
def headsA(g:ProgP):Nat→List FuncP→NS→NS
  |_,[],st=>st
  | i,f::l,st=>
    let st:=if flook g f.name≠i+1 then faultF st f.re f.im 29 else if specialF f.name then faultF st f.re f.im 28 else st
    headsA g (i+1) l (headPs g i f [] f.params st)

/-- The least and the greatest number of kids of a function of the language. -/
def countsF(name:ByteArray):Nat×Nat:=
  if memB name [bs [108,101,110,103,116,104],bs [115,114,97,110,100]] then (0,1)
  else if same name (bs [114,97,110,100]) then (0,0)
  else if memB name [bs [105,110,100,101,120],bs [109,97,116,99,104],bs [97,116,97,110,50],bs [101,120,112,105,114,101]] then (2,2)
  else if memB name [bs [115,117,98,115,116,114],bs [115,112,108,105,116],bs [115,117,98],bs [103,115,117,98]] then (2,3)
  else if same name (bs [115,112,114,105,110,116,102]) then (1,1073741824)
  else (1,1)

abbrev NRec:=NS→Node→Option NS
/-- The kids of a node (of no loop). -/
def kidsF(rec:NRec):List Node→NS→Option NS
  | [],st=>some st
  | k::l,st=>do
    let st ←rec st k
    kidsF rec l st
/-- The kids of a call; ps: the parameters from there on. -/
def callF(g:ProgP)(rec:NRec)(fn:Nat):List ByteArray→List Node→NS→Option NS
  |_,[],st=>some st
  | [],_::_,_=>none
  | p ::ps,k::l,st=>do
    if k.kind≠4 then do
      let st ←useF st ⟨k.re,k.im,noT,false,(fn,p),true,false⟩
      let st ←rec st k
      callF g rec fn ps l st
    else do
      let o:=ofF g (namedF g st k) k.name
      let a ←rootN o.2 o.1
      let b ←rootN o.2 (fn,p)
      callF g rec fn ps l (if teq a b then o.2 else {o.2 with same:=o.2.same++ [(a,b)]})
/-- A node itself, ahead of its kids. -/
def preF(g:ProgP)(st:NS)(n:Node):Option NS:=
  if n.kind=4 then useF (ofF g (namedF g st n) n.name).2 ⟨n.re,n.im,(ofF g (namedF g st n) n.name).1,false,noT,false,false⟩
  else if n.kind=5 then useF (ofF g (namedF g st n) n.name).2 ⟨n.re,n.im,(ofF g (namedF g st n) n.name).1,true,noT,false,false⟩
  else if n.kind=38 then some (if st.fn>0∨(st.rule≠5∧st.rule≠6∧st.rule≠7) then faultF st n.re n.im 32 else st)
  else if n.kind=40 then some (if st.fn=0 then faultF st n.re n.im 32 else st)
  else if n.kind=36∨n.kind=37 then some (if st.loops=0 then faultF st n.re n.im 32 else st)
  else some st
/-- One node. Not spoken of (none): loops, and the language's own functions where their kids are as many as may be. -/
def nodeStep(g:ProgP)(rec:NRec)(st:NS)(n:Node):Option NS:=
  if 1000000<n.kids.length then none
  else if n.kind=19 then
    if flook g n.name=0 then some (faultF st n.re n.im 28)
    else if (paramsOf g (flook g n.name)).length<n.kids.length then some (faultF st n.re n.im 31)
    else callF g rec (flook g n.name) (paramsOf g (flook g n.name)) n.kids st
  else if n.kind=20 then
    if n.kids.length<(countsF n.name).1∨(countsF n.name).2<n.kids.length then some (faultF st n.re n.im 31) else none
  else if n.kind=11∨n.kind=41∨n.kind=32∨n.kind=33∨n.kind=34∨n.kind=35 then none
  else do
    let st ←preF g st n
    kidsF rec n.kids st
def nodeN(g:ProgP):Nat→NRec
  |0=>fun _ _=>none
  |f+1=>nodeStep g (nodeN g f)

def patsF(rec:NRec):List Node→NS→Option NS
  | [],st=>some st
  | n::l,st=>do
    let st ←rec st n
    patsF rec l st
def allR(rec:NRec):List RuleP→NS→Option NS
  | [],st=>some st
  | r::l,st=>do
    let st ←patsF rec r.pats {st with rule:=r.kind,loops:=0}
    let st ←rec st r.body
    allR rec l st
def allF(rec:NRec):Nat→List FuncP→NS→Option NS
  |_,[],st=>some st
  | i,f::l,st=>do
    let st ←rec {st with fn:=i+1,loops:=0} f.body
    allF rec (i+1) l st

/-! ### kinds -/
abbrev Kinds:=List (Thing×Nat)
def kof(t:Thing):Kinds→Nat
  | []=>0
  |x::l=>if teq t x.1 then x.2 else kof t l
def kindsS(st:NS):List Thing→Kinds→Option Kinds
  | [],k=>some k
  | t ::l,k=>if t.1=0∧specialF t.2=true then do
      let r ←rootN st t
      kindsS st l ((r,1)::k)
    else kindsS st l k
def kindsU(st:NS):List Use→Kinds→Option Kinds
  | [],k=>some k
  | u ::l,k=>if u.kid||u.bad then kindsU st l k else do
      let r ←rootN st u.of
      kindsU st l (if kof r k>0 then k else (r,if u.array then 2 else 1)::k)
def kindsF(st:NS):Option Kinds:=do
  let k ←kindsS st st.seen []
  kindsU st st.uses k
def arraysF(k:Kinds):List Use→NS→Option NS
  | [],st=>some st
  | u ::l,st=>do
    let b ←(if u.bad then some true
      else if u.kid then do
        let r ←rootN st u.param
        some (kof r k==2)
      else do
        let r ←rootN st u.of
        some ((kof r k==2) !=u.array))
    arraysF k l (if b then faultF st u.re u.im 30 else st)

/-! ### what is told -/
def ltB:List UInt8→List UInt8→Bool
  |_,[]=>false
  | [],_::_=>true
  |a::x,b::y=>if a<b then true else if b<a then false else ltB x y
def insB(s:ByteArray):List ByteArray→List ByteArray
  | []=> [s]
  |x::l=>if ltB x.data.toList s.data.toList then x::insB s l else s::x::l
def sortB:List ByteArray→List ByteArray
  | []=> []
  |x::l=>insB x (sortB l)
structure InfoP where
  scalars:List ByteArray
  arrays:List ByteArray
  params:List (List Bool)
/-- The global names, arrays or none, in the order in which they were seen. -/
def namesF(st:NS)(k:Kinds)(arr:Bool):List Thing→Option (List ByteArray)
  | []=>some []
  | t ::l=>if decide (t.1>0)||specialF t.2 then namesF st k arr l else do
      let r ←rootN st t
      let rest ←namesF st k arr l
      some (if (kof r k==2)==arr then t.2::rest else rest)
def parsF(st:NS)(k:Kinds)(i:Nat):List ByteArray→Option (List Bool)
  | []=>some []
  | s::l=>do
    let r ←rootN st (i+1,s)
    let rest ←parsF st k i l
    some ((kof r k==2)::rest)
def parsAll(st:NS)(k:Kinds):Nat→List FuncP→Option (List (List Bool))
  |_,[]=>some []
  | i,f::l=>do
    let x ←parsF st k i f.params
    let rest ←parsAll st k (i+1) l
    some (x::rest)
structure Told where
  info:InfoP
  re:Nat
  im:Nat
  e:Int
/-- The bounds within which a program is spoken of. -/
def smallB(g:ProgP):Bool:=decide (g.funcs.length≤400000)&&decide (g.rules.length≤1000000)&&g.funcs.all (fun f=>decide (f.params.length≤400000))&&g.rules.all (fun r=>decide (r.pats.length≤1000000))
def ns0:NS:=⟨0,0,0,[],[],[],0,0,0⟩
def infoF(st:NS)(k:Kinds)(g:ProgP):Option InfoP:=do
  let sc ←namesF st k false st.seen
  let ar ←namesF st k true st.seen
  let ps ←parsAll st k 0 g.funcs
  some ⟨sortB sc,sortB ar,ps⟩
def nRest(st:NS)(g:ProgP):Option Told:=if st.e≠0 then some ⟨⟨[],[],[]⟩,st.re,st.im,st.e⟩ else do
  let k ←kindsF st
  let x ←infoF st k g
  some ⟨x,0,0,0⟩
def nArr(st:NS):Option NS:=if st.e=0 then do
    let k ←kindsF st
    arraysF k st.uses st
  else some st
def nAll(fu:Nat)(g:ProgP)(st:NS):Option NS:=if st.e=0 then do
    let st ←allR (nodeN g fu) g.rules st
    allF (nodeN g fu) 0 g.funcs st
  else some st
def nCheck(fu:Nat)(g:ProgP):Option Told:=if smallB g=false then none else do
  let st ←nAll fu g (headsA g 0 g.funcs ns0)
  if 400000<st.uses.length∨400000<st.seen.length then none else do
    let st ←nArr st
    nRest st g
end Go.Proofs.YteafcepaolofpaaGreatDoor
end
section
/- The document's parser of regular expressions, at the text 'a', walked. -/
namespace Go.Proofs.YteafcepaolofpaaGreatDoor
open Go.RowKit
abbrev reV(b:Int):Value:= .agg #[.int .i64 1,.int .u64 0,.int .u64 b,.int .u64 0,.int .u64 0,.slice none 0 0]
def PkI(cs:Array Value)(w:World)(g:Nat)(j:Value)(wr:World):Prop:=
  ∃ k:Nat,j= .int .i64 k∧k≤256∧257=g+k∧Keeps [] w wr∧wr.heap[w.heap.size]? =some (.cells cs 342 (0,0))∧wr.heap[w.heap.size+1]? =some (.cells #[.int .u64 0,.int .u64 0,.int .u64 0,.int .u64 0] 322 (0,0))∧
    ∃b:Int,(k≤97→b=0)∧wr.heap[w.heap.size+2]? =some (.cells #[.int .u64 0,.int .u64 b,.int .u64 0,.int .u64 0] 322 (0,0))
theorem packed97{cs:Array Value}(hs:cs.size=256)(hb:∀i,i<256→cs[i]? =some (.bool (decide (i=97))))(w:World):
    Calls Tryz.prog 285 #[.agg cs] w fun r w'=>∃b:Int,r= .returned (.agg #[.int .u64 0,.int .u64 b,.int .u64 0,.int .u64 0])∧Keeps [] w w':=by
  have HB:=Lib.hid hb;have HS:=Lib.hid hs
  clear hb hs
  go_enter Tryz.func285,Tryz.ntmps285
  go_wp2_with fail
  go_loopg [4] 257 (fun g j wr=>PkI cs w g j wr)
  case atStart=>exact ⟨0,rfl,by omega,rfl,kps,by simp only [hA,World.size_alloc,Nat.left_eq_add,Nat.add_assoc,Nat.reduceAdd,Nat.one_ne_zero,Nat.reduceEqDiff,reduceIte],by simp only [hA,World.size_alloc,Nat.add_right_cancel_iff,Nat.add_left_cancel_iff,Nat.left_eq_add,Nat.add_assoc,Nat.reduceAdd,Nat.one_ne_zero,Nat.reduceEqDiff,reduceIte],0,fun _=>rfl,by simp only [hA,World.size_alloc,Nat.add_assoc,Nat.reduceAdd,reduceIte]⟩
  case round=>
    obtain ⟨k,rfl,hk1,hk2,hkw,h1,h2,b,hb0,h3⟩:=hrel
    have HKW:=Lib.hid hkw;have H1:=Lib.hid h1;have H2:=Lib.hid h2;have H3:=Lib.hid h3
    have c0:=cell_of_heap h3 0;have c1:=cell_of_heap h3 1;have c2:=cell_of_heap h3 2;have c3:=cell_of_heap h3 3;have z1:=frozen_of_heap h3 1;have l3:=h_lt h3;have l1:=h_lt h1;have l2:=h_lt h2
    simp at c0 c1 c2 c3
    by_cases hlt:k<256
    · have hq:=cell_of_heap h1 k
      rw [HB.out k hlt] at hq
      clear hkw h1 h2 h3
      cases gk with
      |zero=>omega
      | succ f=>
        by_cases h97:k=97
        · subst h97
          obtain rfl:=hb0 (Nat.le_refl _)
          simp at hq
          go_wp2_with fail
          go_roundg f
          case measure=>omega
          case rel=>exact ⟨98,rfl,by omega,by omega,keeps_set HKW.out (by omega),by rw [hS,if_neg (by omega)];exact H1.out,by rw [hS,if_neg (by omega)];exact H2.out,_,fun h=>by omega,by rw [hS,if_pos rfl,H3.out];rfl⟩
        · rw [show decide (k=97)=false from decide_eq_false h97] at hq
          go_wp2_with fail
          go_roundg f
          case measure=>omega
          case rel=>exact ⟨k+1,by first|rfl|(simp;done)|(simp;omega),by omega,by omega,HKW.out,H1.out,H2.out,b,fun h=>hb0 (by omega),H3.out⟩
    · clear hkw h1 h2 h3
      go_wp2_with ((with_reducible show wpList _ _ _ (Oper.mk none (.store 322 _ _) _ _ _ _::_) _ _);refine stT 322 (w.heap.size+1) 0 #[.int .u64 0,.int .u64 0,.int .u64 0,.int .u64 0] H2.out rfl (.agg #[.int .u64 0,.int .u64 b,.int .u64 0,.int .u64 0]) rfl (by kernel_rfl) (by simp [Value.cells]) (by simp [Value.cells,Value.oneCell']) ?_)
      intro w2 hs2
      have HKS:=Lib.hid hs2.keeps
      have hr2:=hs2.row
      clear hs2
      go_wp2_with fail
      refine ret_at (v:= .agg #[.int .u64 0,.int .u64 b,.int .u64 0,.int .u64 0]) (fun U=>U=w2) rfl (fun w1 hW=>by
        subst hW
        have x0:=cell_of_heap hr2 0
        have x1:=cell_of_heap hr2 1
        have x2:=cell_of_heap hr2 2
        have x3:=cell_of_heap hr2 3
        simp [Value.cells] at x0 x1 x2 x3
        simp [results,Tryz.results285,go_sem,x0,x1,x2,x3]) rfl (fun w1 hW=> ?_)
      subst hW
      exact ⟨b,rfl,HKW.out.trans HKS.out (by intro x hx;simp at hx;right;omega)⟩
theorem one97(w:World):Calls Tryz.prog 289 #[.int .u8 97] w fun r w'=>∃b:Int,r= .returned (reV b)∧Keeps [] w w':=by
  obtain ⟨cs,hcs⟩:∃cs,Tryz.zeroCells342.setIfInBounds 97 (.bool true)=cs:=⟨_,rfl⟩
  have hz:Tryz.zeroCells342=Array.replicate 256 (.bool false):=by kernel_rfl
  have hs:cs.size=256:=by rw [←hcs,hz];simp
  have hb:∀i,i<256→cs[i]? =some (.bool (decide (i=97))):=fun i hi=>by
    rw [←hcs,hz,Array.getElem?_setIfInBounds]
    by_cases h:97=i
    · subst h;simp
    · rw [if_neg h]
      have h':¬i=97:=fun e=>h e.symm
      simp [hi,h']
  have hi:(Tryz.prog.info? 342).map (·.size)=some cs.size:=by rw [hs];kernel_rfl
  have HB:=Lib.hid hb;have HS:=Lib.hid hs;have HI:=Lib.hid hi;have HC:=Lib.hid hcs
  clear hz hs hb hi hcs
  go_enter Tryz.func289,Tryz.ntmps289
  go_wp2_with ((with_reducible show wpList _ _ _ (Oper.mk _ (.load 342 _) _ _ _ _::_) _ _);rw [HC.out];refine wpList_load_row rfl 342 _ rfl (w.heap.size+1) rfl 342 cs (0,0) _ (by simp only [hA,World.size_alloc,reduceIte]) Tryz.underlying342 rfl HI.out ?_)
  refine (packed97 HS.out HB.out _).mono ?_
  rintro r W ⟨b,rfl,hk⟩
  have HO:=Lib.hid (show W.heap[w.heap.size]? =some (.cells #[.int .i64 0,.int .u64 0,.int .u64 0,.int .u64 0,.int .u64 0,.slice none 0 0] 325 (0,0)) from hk.at (by simp only [hA,World.size_alloc,Nat.left_eq_add,Nat.one_ne_zero,reduceIte]) (by simp))
  have HK:=Lib.hid (show Keeps [] w W from Keeps.trans (fp':= []) kps hk (by simp))
  clear hk
  go_wp2_with ((with_reducible show wpList _ _ _ (Oper.mk none (.store 325 _ _) _ _ _ _::_) _ _);refine stT 325 (w.heap.size) 0 #[.int .i64 0,.int .u64 0,.int .u64 0,.int .u64 0,.int .u64 0,.slice none 0 0] HO.out rfl (reV b) rfl (by kernel_rfl) (by simp [Value.cells]) (by simp [Value.cells,Value.oneCell']) ?_)
  intro w2 hs2
  have HKS:=Lib.hid hs2.keeps
  have hr2:=hs2.row
  clear hs2
  go_wp2_with fail
  refine ret_at (v:=reV b) (fun U=>U=w2) rfl (fun w1 hW=>by
    subst hW
    have x0:=cell_of_heap hr2 0
    have x1:=cell_of_heap hr2 1
    have x2:=cell_of_heap hr2 2
    have x3:=cell_of_heap hr2 3
    have x4:=cell_of_heap hr2 4
    have x5:=cell_of_heap hr2 5
    simp [Value.cells] at x0 x1 x2 x3 x4 x5
    simp [results,Tryz.results289,go_sem,x0,x1,x2,x3,x4,x5]) rfl (fun w1 hW=> ?_)
  subst hW
  exact ⟨b,rfl,HK.out.trans HKS.out (by intro x hx;simp at hx;right;omega)⟩
end Go.Proofs.YteafcepaolofpaaGreatDoor
end
section
/- The reader of a regular expression at the text a: is, an atom. Made by a program (re8.py). -/
namespace Go.Proofs.YteafcepaolofpaaGreatDoor
open Go.RowKit
abbrev rdO(i:Int):Obj:= .cells #[.string ⟨#[97]⟩,.int .i64 i,.int .i64 0,.int .i64 0,.int .i64 0,.int .i64 0] 331 (0,0)
theorem is97{w:World}{p:Nat}(h:w.heap[p]? =some (rdO 1))(c:Int):Calls Tryz.prog 275 #[.pointer (some ⟨p,0,none⟩),.int .u8 c] w fun r w'=>r= .returned (.bool false)∧Keeps [] w w':=by
  have c0:=cell_of_heap h 0;have c1:=cell_of_heap h 1;have l:=h_lt h
  simp at c0 c1
  clear h
  go_enter Tryz.func275,Tryz.ntmps275
  go_wp2_with fail
  go_region
  all_goals
    go_wp2_with fail
    exact bodyPost_ret (v:= .bool false) (by simp [results,Tryz.results275,go_sem]) rfl ⟨rfl,kps⟩
theorem atom97{w:World}{p:Nat}(h:w.heap[p]? =some (rdO 0)):Calls Tryz.prog 283 #[.pointer (some ⟨p,0,none⟩)] w fun r w'=>∃b:Int,r= .returned (reV b)∧Keeps [p] w w'∧w'.heap[p]? =some (rdO 1):=by
  have c0:=cell_of_heap h 0;have c1:=cell_of_heap h 1;have z1:=frozen_of_heap h 1;have l:=h_lt h
  simp at c0 c1
  have HP:=Lib.hid h
  clear h
  go_enter Tryz.func283,Tryz.ntmps283
  go_wp2_with fail
  go_quiet (fail)
  go_wp2_with fail
  have HK1:=Lib.hid (show Keeps [p] w (((w.alloc (.cells #[.int .i64 0,.int .u64 0,.int .u64 0,.int .u64 0,.int .u64 0,.slice none 0 0] 325)).drewN nq).setCell ⟨p,1,none⟩ (.int .i64 1)) from kS (Keeps.trans (fp':= []) (kA (k0 [p] w) _) (Keeps.drewN [] _ nq) (by simp)) (by simp))
  have HP1:=Lib.hid (show (((w.alloc (.cells #[.int .i64 0,.int .u64 0,.int .u64 0,.int .u64 0,.int .u64 0,.slice none 0 0] 325)).drewN nq).setCell ⟨p,1,none⟩ (.int .i64 1)).heap[p]? =some (rdO 1) from by
    rw [hS,if_pos rfl,(Keeps.drewN [] _ nq).block p (by simp only [World.size_alloc];omega) (by simp),hA,if_neg (by omega),HP.out];rfl)
  have HO1:=Lib.hid (show (((w.alloc (.cells #[.int .i64 0,.int .u64 0,.int .u64 0,.int .u64 0,.int .u64 0,.slice none 0 0] 325)).drewN nq).setCell ⟨p,1,none⟩ (.int .i64 1)).heap[w.heap.size]? =some (.cells #[.int .i64 0,.int .u64 0,.int .u64 0,.int .u64 0,.int .u64 0,.slice none 0 0] 325 (0,0)) from by
    rw [hS,if_neg (by omega),(Keeps.drewN [] _ nq).block w.heap.size (by simp only [World.size_alloc];omega) (by simp),hA,if_pos rfl])
  generalize ((w.alloc (.cells #[.int .i64 0,.int .u64 0,.int .u64 0,.int .u64 0,.int .u64 0,.slice none 0 0] 325)).drewN nq).setCell ⟨p,1,none⟩ (.int .i64 1)=W1 at*
  change Calls Tryz.prog 289 #[.int .u8 97] _ _
  refine (one97 _).mono ?_
  rintro r W2 ⟨b,rfl,hk⟩
  have HO:=Lib.hid (hk.at HO1.out (by simp))
  have HP2:=Lib.hid (hk.at HP1.out (by simp))
  have HK:=Lib.hid (HK1.out.trans (fp':= []) hk (by simp))
  clear hk HK1 HO1 HP1
  go_wp2_with ((with_reducible show wpList _ _ _ (Oper.mk none (.store 325 _ _) _ _ _ _::_) _ _);refine stT 325 (w.heap.size) 0 #[.int .i64 0,.int .u64 0,.int .u64 0,.int .u64 0,.int .u64 0,.slice none 0 0] HO.out rfl (reV b) rfl (by kernel_rfl) (by simp [Value.cells]) (by simp [Value.cells,Value.oneCell']) ?_)
  intro w2 hs2
  have HKS:=Lib.hid hs2.keeps
  have hr2:=hs2.row
  clear hs2
  go_wp2_with fail
  refine ret_at (v:=reV b) (fun U=>U=w2) rfl (fun w1 hW=>by
    subst hW
    have x0:=cell_of_heap hr2 0
    have x1:=cell_of_heap hr2 1
    have x2:=cell_of_heap hr2 2
    have x3:=cell_of_heap hr2 3
    have x4:=cell_of_heap hr2 4
    have x5:=cell_of_heap hr2 5
    simp [Value.cells] at x0 x1 x2 x3 x4 x5
    simp [results,Tryz.results283,go_sem,x0,x1,x2,x3,x4,x5]) rfl (fun w1 hW=> ?_)
  subst hW
  exact ⟨b,rfl,HK.out.trans HKS.out (by intro x hx;simp at hx;right;omega),HKS.out.at HP2.out (by simp;omega)⟩
theorem piece97{w:World}{p:Nat}(h:w.heap[p]? =some (rdO 0)):Calls Tryz.prog 280 #[.pointer (some ⟨p,0,none⟩)] w fun r w'=>∃b:Int,r= .returned (reV b)∧Keeps [p] w w'∧w'.heap[p]? =some (rdO 1):=by
  have HP:=Lib.hid h
  clear h
  go_enter Tryz.func280,Tryz.ntmps280
  go_wp2_with fail
  refine (atom97 ((kA (k0 [] w) (.cells #[.int .i64 0,.int .u64 0,.int .u64 0,.int .u64 0,.int .u64 0,.slice none 0 0] 325)).at HP.out (by simp))).mono ?_
  rintro r W1 ⟨b,rfl,hk,hp⟩
  have hpl:p<w.heap.size:=h_lt HP.out
  have HO:=Lib.hid (show W1.heap[w.heap.size]? =some (.cells #[.int .i64 0,.int .u64 0,.int .u64 0,.int .u64 0,.int .u64 0,.slice none 0 0] 325 (0,0)) from hk.at (by simp only [hA,reduceIte]) (by simp;omega))
  have HK:=Lib.hid (show Keeps [p] w W1 from Keeps.trans (fp':= [p]) kps hk (by simp))
  have lO:=h_lt HO.out
  have HP1:=Lib.hid hp
  clear hk hp
  go_wp2_with fail
  refine wp_at (fun V=>Keeps [] W1 V∧V.heap[W1.heap.size]? =some (.cells #[.int .i64 1,.int .u64 0,.int .u64 b,.int .u64 0,.int .u64 0,.slice none 0 0] 325 (0,0))) ⟨kps,cel⟩ ?_
  rintro W2 ⟨hk2,hr⟩
  have HO2:=Lib.hid (hk2.at HO.out (by simp));have HP2:=Lib.hid (hk2.at HP1.out (by simp));have HK2:=Lib.hid (HK.out.trans (fp':= []) hk2 (by simp));have HR2:=Lib.hid hr
  obtain ⟨B,hB⟩:∃B,W1.heap.size=B:=⟨_,rfl⟩
  rw [hB] at HR2⊢
  clear hk2 hr lO hB
  go_loopg [] 1 (fun g wr=>g=1∧wr=W2)
  case atStart=>exact ⟨rfl,rfl⟩
  case round=>
    obtain ⟨rfl,rfl⟩:=hrel
    have c0:=cell_of_heap HP2.out 0;have c1:=cell_of_heap HP2.out 1;have c3:=cell_of_heap HP2.out 3;have l:=h_lt HP2.out
    have x0:=cell_of_heap HR2.out 0;have x1:=cell_of_heap HR2.out 1;have x2:=cell_of_heap HR2.out 2;have x3:=cell_of_heap HR2.out 3;have x4:=cell_of_heap HR2.out 4;have x5:=cell_of_heap HR2.out 5;have lR:=h_lt HR2.out
    simp at c0 c1 c3 x0 x1 x2 x3 x4 x5
    go_wp2_with fail
    go_region
    all_goals
      go_wp2_with ((with_reducible show wpList _ _ _ (Oper.mk none (.store 325 _ _) _ _ _ _::_) _ _);refine stT 325 (w.heap.size) 0 #[.int .i64 0,.int .u64 0,.int .u64 0,.int .u64 0,.int .u64 0,.slice none 0 0] (show wr.drew.heap[w.heap.size]? =_ from HO2.out) rfl (reV b) rfl (by kernel_rfl) (by simp [Value.cells]) (by simp [Value.cells,Value.oneCell']) ?_)
      intro w2 hs2
      have HKS:=Lib.hid hs2.keeps
      have hr2:=hs2.row
      clear hs2
      go_wp2_with fail
      refine ret_at (v:=reV b) (fun U=>U=w2) rfl (fun w1 hW=>by
        subst hW
        have x0:=cell_of_heap hr2 0
        have x1:=cell_of_heap hr2 1
        have x2:=cell_of_heap hr2 2
        have x3:=cell_of_heap hr2 3
        have x4:=cell_of_heap hr2 4
        have x5:=cell_of_heap hr2 5
        simp [Value.cells] at x0 x1 x2 x3 x4 x5
        simp [results,Tryz.results280,go_sem,x0,x1,x2,x3,x4,x5]) rfl (fun w1 hW=> ?_)
      subst hW
      exact ⟨b,rfl,(HK2.out.trans (fp':= []) (kD (k0 [] wr)) (by simp)).trans HKS.out (by intro x hx;simp at hx;right;omega),HKS.out.at (show wr.drew.heap[p]? =_ from HP2.out) (by simp;omega)⟩
end Go.Proofs.YteafcepaolofpaaGreatDoor
end
section
/- The reader of a regular expression at the text a: a row, a chain, an alternative. Made by a program (re8.py). -/
namespace Go.Proofs.YteafcepaolofpaaGreatDoor
open Go.RowKit
theorem rrow1(kd:Int){b:Int}{w:World}{g:Nat}(h:w.heap[g]? =some (.cells #[.int .i64 1,.int .u64 0,.int .u64 b,.int .u64 0,.int .u64 0,.slice none 0 0] 325 (0,0))):Calls Tryz.prog 276 #[.int .i64 kd,.slice (some ⟨g,0,none⟩) 1 1] w fun r w'=>∃b:Int,r= .returned (reV b)∧Keeps [] w w':=by
  have x0:=cell_of_heap h 0;have x1:=cell_of_heap h 1;have x2:=cell_of_heap h 2;have x3:=cell_of_heap h 3;have x4:=cell_of_heap h 4;have x5:=cell_of_heap h 5;have l:=h_lt h
  simp at x0 x1 x2 x3 x4 x5
  clear h
  go_enter Tryz.func276,Tryz.ntmps276
  go_wp2_with fail
  refine wp_at (fun V=>Keeps [] w V∧V.heap[w.heap.size]? =some (.cells #[.int .i64 0,.int .u64 0,.int .u64 0,.int .u64 0,.int .u64 0,.slice none 0 0] 325 (0,0))∧V.heap[w.heap.size+1]? =some (.cells #[.int .i64 1,.int .u64 0,.int .u64 b,.int .u64 0,.int .u64 0,.slice none 0 0] 325 (0,0))) ⟨kps,by simp only [hA,World.size_alloc,Nat.left_eq_add,Nat.one_ne_zero,reduceIte],by simp only [hA,World.size_alloc,reduceIte]⟩ ?_
  rintro W2 ⟨hk2,ho,hr⟩
  have HK2:=Lib.hid hk2;have HO2:=Lib.hid ho;have HR2:=Lib.hid hr
  clear hk2 ho hr x0 x1 x2 x3 x4 x5 l
  go_loopg [6] 1 (fun g j wr=>g=1∧j= .int .i64 (-1)∧wr=W2)
  case atStart=>exact ⟨rfl,rfl,rfl⟩
  case round=>
    obtain ⟨rfl,rfl,rfl⟩:=hrel
    have x0:=cell_of_heap HR2.out 0;have x1:=cell_of_heap HR2.out 1;have x2:=cell_of_heap HR2.out 2;have x3:=cell_of_heap HR2.out 3;have x4:=cell_of_heap HR2.out 4;have x5:=cell_of_heap HR2.out 5;have lR:=h_lt HR2.out
    simp at x0 x1 x2 x3 x4 x5
    go_wp2_with ((with_reducible show wpList _ _ _ (Oper.mk none (.store 325 _ _) _ _ _ _::_) _ _);refine stT 325 (w.heap.size) 0 #[.int .i64 0,.int .u64 0,.int .u64 0,.int .u64 0,.int .u64 0,.slice none 0 0] HO2.out rfl (reV b) rfl (by kernel_rfl) (by simp [Value.cells]) (by simp [Value.cells,Value.oneCell']) ?_)
    intro w2 hs2
    have HKS:=Lib.hid hs2.keeps
    have hr2:=hs2.row
    clear hs2
    go_wp2_with fail
    refine ret_at (v:=reV b) (fun U=>U=w2) rfl (fun w1 hW=>by
      subst hW
      have x0:=cell_of_heap hr2 0
      have x1:=cell_of_heap hr2 1
      have x2:=cell_of_heap hr2 2
      have x3:=cell_of_heap hr2 3
      have x4:=cell_of_heap hr2 4
      have x5:=cell_of_heap hr2 5
      simp [Value.cells] at x0 x1 x2 x3 x4 x5
      simp [results,Tryz.results276,go_sem,x0,x1,x2,x3,x4,x5]) rfl (fun w1 hW=> ?_)
    subst hW
    exact ⟨b,rfl,HK2.out.trans HKS.out (by intro x hx;simp at hx;right;omega)⟩
theorem cat97{w:World}{p:Nat}(h:w.heap[p]? =some (rdO 0)):Calls Tryz.prog 274 #[.pointer (some ⟨p,0,none⟩)] w fun r w'=>∃b:Int,r= .returned (reV b)∧Keeps [p] w w'∧w'.heap[p]? =some (rdO 1):=by
  have HP:=Lib.hid h
  clear h
  go_enter Tryz.func274,Tryz.ntmps274
  go_wp2_with fail
  refine (piece97 ((kA (k0 [] w) (.cells #[.int .i64 0,.int .u64 0,.int .u64 0,.int .u64 0,.int .u64 0,.slice none 0 0] 325)).at HP.out (by simp))).mono ?_
  rintro r W1 ⟨b,rfl,hk,hp⟩
  have hpl:p<w.heap.size:=h_lt HP.out
  have HO:=Lib.hid (show W1.heap[w.heap.size]? =some (.cells #[.int .i64 0,.int .u64 0,.int .u64 0,.int .u64 0,.int .u64 0,.slice none 0 0] 325 (0,0)) from hk.at (by simp only [hA,reduceIte]) (by simp;omega))
  have HK:=Lib.hid (show Keeps [p] w W1 from Keeps.trans (fp':= [p]) kps hk (by simp))
  have HP1:=Lib.hid hp
  clear hk hp
  go_wp2_with fail
  refine wp_at (fun V=>Keeps [] W1 V∧V.heap[W1.heap.size]? =some (.cells #[.int .i64 1,.int .u64 0,.int .u64 b,.int .u64 0,.int .u64 0,.slice none 0 0] 325 (0,0))) ⟨kps,cel⟩ ?_
  rintro W2 ⟨hk2,hr⟩
  have HO2:=Lib.hid (hk2.at HO.out (by simp));have HP2:=Lib.hid (hk2.at HP1.out (by simp));have HK2:=Lib.hid (HK.out.trans (fp':= []) hk2 (by simp));have HR2:=Lib.hid hr
  obtain ⟨B,hB⟩:∃B,W1.heap.size=B:=⟨_,rfl⟩
  rw [hB] at HR2⊢
  clear hk2 hr hB
  go_loopg [3] 1 (fun g j wr=>g=1∧j= .slice (some ⟨B,0,none⟩) 1 1∧wr=W2)
  case atStart=>exact ⟨rfl,rfl,rfl⟩
  case round=>
    obtain ⟨rfl,rfl,rfl⟩:=hrel
    have c0:=cell_of_heap HP2.out 0;have c1:=cell_of_heap HP2.out 1;have c3:=cell_of_heap HP2.out 3;have l:=h_lt HP2.out
    simp at c0 c1 c3
    go_wp2_with fail
    go_region
    all_goals
      go_wp2_with fail
      refine (rrow1 2 (b:=b) (show wr.drew.heap[B]? =_ from HR2.out)).mono ?_
      rintro r W3 ⟨b2,rfl,hk3⟩
      have hk4:=Keeps.trans (fp:= []) (fp':= []) (a:=wr) (kD (k0 [] wr)) hk3 (by simp)
      have HO3:=Lib.hid (hk4.at HO2.out (by simp));have HP3:=Lib.hid (hk4.at HP2.out (by simp));have HK3:=Lib.hid (HK2.out.trans (fp':= []) hk4 (by simp))
      clear hk3 hk4
      go_wp2_with ((with_reducible show wpList _ _ _ (Oper.mk none (.store 325 _ _) _ _ _ _::_) _ _);refine stT 325 (w.heap.size) 0 #[.int .i64 0,.int .u64 0,.int .u64 0,.int .u64 0,.int .u64 0,.slice none 0 0] HO3.out rfl (reV b2) rfl (by kernel_rfl) (by simp [Value.cells]) (by simp [Value.cells,Value.oneCell']) ?_)
      intro w2 hs2
      have HKS:=Lib.hid hs2.keeps
      have hr2:=hs2.row
      clear hs2
      go_wp2_with fail
      refine ret_at (v:=reV b2) (fun U=>U=w2) rfl (fun w1 hW=>by
        subst hW
        have x0:=cell_of_heap hr2 0
        have x1:=cell_of_heap hr2 1
        have x2:=cell_of_heap hr2 2
        have x3:=cell_of_heap hr2 3
        have x4:=cell_of_heap hr2 4
        have x5:=cell_of_heap hr2 5
        simp [Value.cells] at x0 x1 x2 x3 x4 x5
        simp [results,Tryz.results274,go_sem,x0,x1,x2,x3,x4,x5]) rfl (fun w1 hW=> ?_)
      subst hW
      exact ⟨b2,rfl,HK3.out.trans HKS.out (by intro x hx;simp at hx;right;omega),HKS.out.at HP3.out (by simp;omega)⟩
theorem alt97{w:World}{p:Nat}(h:w.heap[p]? =some (rdO 0)):Calls Tryz.prog 271 #[.pointer (some ⟨p,0,none⟩)] w fun r w'=>∃b:Int,r= .returned (reV b)∧Keeps [p] w w'∧w'.heap[p]? =some (rdO 1):=by
  have HP:=Lib.hid h
  clear h
  go_enter Tryz.func271,Tryz.ntmps271
  go_wp2_with fail
  refine (cat97 ((kA (k0 [] w) (.cells #[.int .i64 0,.int .u64 0,.int .u64 0,.int .u64 0,.int .u64 0,.slice none 0 0] 325)).at HP.out (by simp))).mono ?_
  rintro r W1 ⟨b,rfl,hk,hp⟩
  have hpl:p<w.heap.size:=h_lt HP.out
  have HO:=Lib.hid (show W1.heap[w.heap.size]? =some (.cells #[.int .i64 0,.int .u64 0,.int .u64 0,.int .u64 0,.int .u64 0,.slice none 0 0] 325 (0,0)) from hk.at (by simp only [hA,reduceIte]) (by simp;omega))
  have HK:=Lib.hid (show Keeps [p] w W1 from Keeps.trans (fp':= [p]) kps hk (by simp))
  have HP1:=Lib.hid hp
  clear hk hp
  go_wp2_with fail
  refine wp_at (fun V=>Keeps [] W1 V∧V.heap[W1.heap.size]? =some (.cells #[.int .i64 1,.int .u64 0,.int .u64 b,.int .u64 0,.int .u64 0,.slice none 0 0] 325 (0,0))) ⟨kps,cel⟩ ?_
  rintro W2 ⟨hk2,hr⟩
  have HO2:=Lib.hid (hk2.at HO.out (by simp));have HP2:=Lib.hid (hk2.at HP1.out (by simp));have HK2:=Lib.hid (HK.out.trans (fp':= []) hk2 (by simp));have HR2:=Lib.hid hr
  obtain ⟨B,hB⟩:∃B,W1.heap.size=B:=⟨_,rfl⟩
  rw [hB] at HR2⊢
  clear hk2 hr hB
  go_loopg [3] 1 (fun g j wr=>g=1∧j= .slice (some ⟨B,0,none⟩) 1 1∧wr=W2)
  case atStart=>exact ⟨rfl,rfl,rfl⟩
  case round=>
    obtain ⟨rfl,rfl,rfl⟩:=hrel
    have c0:=cell_of_heap HP2.out 0;have c1:=cell_of_heap HP2.out 1;have c3:=cell_of_heap HP2.out 3;have l:=h_lt HP2.out
    simp at c0 c1 c3
    go_wp2_with fail
    refine (is97 HP2.out 124).mono ?_
    rintro r W4 ⟨rfl,hkq⟩
    have HKQ:=Lib.hid hkq
    have HRQ:=Lib.hid (hkq.at HR2.out (by simp))
    clear hkq
    go_wp2_with fail
    refine (rrow1 3 (b:=b) (HRQ.out)).mono ?_
    rintro r W3 ⟨b2,rfl,hk3⟩
    have hk4:=Keeps.trans (fp:= []) (fp':= []) (a:=wr) (HKQ.out) hk3 (by simp)
    have HO3:=Lib.hid (hk4.at HO2.out (by simp));have HP3:=Lib.hid (hk4.at HP2.out (by simp));have HK3:=Lib.hid (HK2.out.trans (fp':= []) hk4 (by simp))
    clear hk3 hk4
    go_wp2_with ((with_reducible show wpList _ _ _ (Oper.mk none (.store 325 _ _) _ _ _ _::_) _ _);refine stT 325 (w.heap.size) 0 #[.int .i64 0,.int .u64 0,.int .u64 0,.int .u64 0,.int .u64 0,.slice none 0 0] HO3.out rfl (reV b2) rfl (by kernel_rfl) (by simp [Value.cells]) (by simp [Value.cells,Value.oneCell']) ?_)
    intro w2 hs2
    have HKS:=Lib.hid hs2.keeps
    have hr2:=hs2.row
    clear hs2
    go_wp2_with fail
    refine ret_at (v:=reV b2) (fun U=>U=w2) rfl (fun w1 hW=>by
      subst hW
      have x0:=cell_of_heap hr2 0
      have x1:=cell_of_heap hr2 1
      have x2:=cell_of_heap hr2 2
      have x3:=cell_of_heap hr2 3
      have x4:=cell_of_heap hr2 4
      have x5:=cell_of_heap hr2 5
      simp [Value.cells] at x0 x1 x2 x3 x4 x5
      simp [results,Tryz.results271,go_sem,x0,x1,x2,x3,x4,x5]) rfl (fun w1 hW=> ?_)
    subst hW
    exact ⟨b2,rfl,HK3.out.trans HKS.out (by intro x hx;simp at hx;right;omega),HKS.out.at HP3.out (by simp;omega)⟩
end Go.Proofs.YteafcepaolofpaaGreatDoor
end
