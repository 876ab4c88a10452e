/- Texts of this claim, joined: InfoL, NSpecW, CSpec, CwK, CwA, CwB, CwC. -/
import Derived.Test.YteafcepaolofpaaGreatDoorSortL
import Derived.Test.YteafcepaolofpaaGreatDoorReA
import Derived.Test.YteafcepaolofpaaGreatDoorThings
set_option maxRecDepth 100000
set_option maxHeartbeats 4000000
set_option linter.unusedSimpArgs false
set_option linter.unusedVariables false
set_option linter.unusedSectionVars false
section
/- info: the plain laws. -/
namespace Go.Proofs.YteafcepaolofpaaGreatDoor
open Go.RowKit

def globG(t:Thing):Bool:= !(decide (t.1>0)||specialF t.2)
def arrK(st:NS)(kf:Kinds)(t:Thing):Bool:=kof (rootD st t) kf==2
def pickN(st:NS)(kf:Kinds)(arr:Bool)(l:List Thing):List ByteArray:=(l.filter fun t=>globG t&&(arrK st kf t==arr)).map (·.2)
theorem namesF_ok{st:NS}{kf:Kinds}{arr:Bool}:∀{l:List Thing} {r:List ByteArray},namesF st kf arr l=some r→(∀t∈l,globG t=true→rootN st t=some (rootD st t))∧r=pickN st kf arr l
  | [],r,h=>by
    simp only [namesF,Option.some.injEq] at h
    exact ⟨by simp,h.symm⟩
  | t ::l,r,h=>by
    unfold namesF at h
    by_cases hg:(decide (t.1>0)||specialF t.2)=true
    · rw [if_pos hg] at h
      obtain ⟨h1,h2⟩:=namesF_ok h
      have hgf:globG t=false:=by unfold globG;rw [hg];rfl
      refine ⟨fun u hu hgu=> ?_, ?_⟩
      · rcases List.mem_cons.1 hu with rfl|hu
        · rw [hgf] at hgu;cases hgu
        · exact h1 u hu hgu
      · rw [h2];unfold pickN;rw [List.filter_cons_of_neg (by rw [hgf];simp)]
    · rw [if_neg hg] at h
      have hgt:globG t=true:=by unfold globG;simp only [Bool.not_eq_true] at hg;rw [hg];rfl
      simp only [Option.bind_eq_bind,Option.bind_eq_some_iff] at h
      obtain ⟨x,hx,rest,hr,h⟩:=h
      have hD:rootD st t=x:=by unfold rootD;rw [hx];rfl
      obtain ⟨h1,h2⟩:=namesF_ok hr
      refine ⟨fun u hu hgu=> ?_, ?_⟩
      · rcases List.mem_cons.1 hu with rfl|hu
        · rw [hx,hD]
        · exact h1 u hu hgu
      · subst h2
        unfold pickN
        by_cases ha:((kof x kf==2)==arr)=true
        · rw [if_pos ha] at h
          rw [List.filter_cons_of_pos (by unfold arrK;rw [hgt,hD,ha];rfl)]
          simpa [pickN] using h.symm
        · rw [if_neg ha] at h
          rw [List.filter_cons_of_neg (by unfold arrK;rw [hgt,hD];simpa using ha)]
          simpa [pickN] using h.symm
theorem pickN_perm{st:NS}{kf:Kinds}{arr:Bool}{p l:List Thing}(h:p.Perm l):(pickN st kf arr p).Perm (pickN st kf arr l):=(h.filter _).map _
theorem pickN_len{st:NS}{kf:Kinds}{arr:Bool}(l:List Thing):(pickN st kf arr l).length≤l.length:=by
  unfold pickN;rw [List.length_map];exact List.length_filter_le _ _
theorem pickN_yes{st:NS}{kf:Kinds}{arr:Bool}{t:Thing}(hg:globG t=true)(ha:arrK st kf t=arr)(p:List Thing):pickN st kf arr (p++ [t])=pickN st kf arr p++ [t.2]:=by
  unfold pickN;rw [List.filter_append,List.map_append,List.filter_cons_of_pos (by rw [hg,ha];simp)];rfl
theorem pickN_no{st:NS}{kf:Kinds}{arr:Bool}{t:Thing}(h:globG t=false∨arrK st kf t= !arr)(p:List Thing):pickN st kf arr (p++ [t])=pickN st kf arr p:=by
  unfold pickN;rw [List.filter_append,List.map_append,List.filter_cons_of_neg (by rcases h with h|h<;>(rw [h];cases arr<;>simp))];simp
/-- A slice of flags; a slice of such slices; what info tells. -/
def BoolE(_:World)(_:Nat→Prop)(u:Bool)(c:List Value):Prop:=c= [.bool u]
theorem boolL:ElemL BoolE 1:={
  keep:=fun h _ _ _=>h
  len:=fun h=>by rw [h];rfl
  one:=fun h u hu=>by rw [h] at hu;simp at hu;rw [hu];rfl}
def FlagsE(w:World)(S:Nat→Prop)(l:List Bool)(c:List Value):Prop:=∃a cap,c= [.slice a l.length cap]∧SliceR BoolE w S l (.slice a l.length cap)
theorem flagsL:ElemL FlagsE 1:={
  keep:=fun ⟨a,cap,h,hs⟩ hk hf hS=>⟨a,cap,h,(hs.kp boolL hk hf).to boolL hS⟩
  len:=fun ⟨_,_,h,_⟩=>by rw [h];rfl
  one:=fun ⟨_,_,h,_⟩ u hu=>by rw [h] at hu;simp at hu;rw [hu];rfl}
def InfoV(w:World)(S:Nat→Prop)(x:InfoP)(v:Value):Prop:=∃sa sc aa ac pa pc,v= .agg #[.slice sa x.scalars.length sc,.slice aa x.arrays.length ac,.slice pa x.params.length pc]∧SliceR StrE w S x.scalars (.slice sa x.scalars.length sc)∧SliceR StrE w S x.arrays (.slice aa x.arrays.length ac)∧SliceR FlagsE w S x.params (.slice pa x.params.length pc)
theorem InfoV.kp{w w':World}{S:Nat→Prop}{fp:List Nat}{x:InfoP}{v:Value}(h:InfoV w S x v)(hk:Keeps fp w w')(hf:∀x∈fp,¬S x):InfoV w' S x v:=by
  obtain ⟨sa,sc,aa,ac,pa,pc,h,h1,h2,h3⟩:=h
  exact ⟨sa,sc,aa,ac,pa,pc,h,h1.kp strL hk hf,h2.kp strL hk hf,h3.kp flagsL hk hf⟩
end Go.Proofs.YteafcepaolofpaaGreatDoor
end
section
/- names.Check of any program, said plainly: with loops and the language's own functions (none: something grows beyond a bound, or the fuel is out). -/
namespace Go.Proofs.YteafcepaolofpaaGreatDoor

def nSplit:ByteArray:=bs [115,112,108,105,116]
def nExpire:ByteArray:=bs [101,120,112,105,114,101]
def nSub:ByteArray:=bs [115,117,98]
def nGsub:ByteArray:=bs [103,115,117,98]
def nLength:ByteArray:=bs [108,101,110,103,116,104]
end Go.Proofs.YteafcepaolofpaaGreatDoor
end
section
/- code.Compile, said plainly (none: something grows beyond a bound, or the fuel is out). -/
namespace Go.Proofs.YteafcepaolofpaaGreatDoor

def Node.num:Node→Nat
  | .mk _ _ n _ _ _=>n
/-- An instruction. -/
structure Ins where
  op:Int
  a:Int
  b:Int
  s:ByteArray
  n:Nat
/-- What a code is written over: the program, what its names stand for, the function (0: a rule's). -/
structure CEnv where
  g:ProgP
  info:InfoP
  fn:Nat
abbrev Out:=List Ins
def putC(x:Ins)(o:Out):Option Out:=if o.length<4000000 then some (o++ [x]) else none
/-- A jump leads to a place. -/
def setA(o:Out)(j:Nat)(tt:Int):Option Out:=if j<o.length then some (o.modify j fun x=>{x with a:=tt}) else none
def landC(tt:Int):List Nat→Out→Option Out
  | [],o=>some o
  | j::l,o=>do
    let o ←setA o j tt
    landC tt l o
/-- Where a name stands first; how many there are: it is not there. -/
def placeL:List ByteArray→ByteArray→Nat
  | [],_=>0
  |x::l,s=>if same x s then 0 else placeL l s+1
def paramC(E:CEnv)(s:ByteArray):Int:=if 0<E.fn∧placeL (paramsOf E.g E.fn) s<(paramsOf E.g E.fn).length then placeL (paramsOf E.g E.fn) s else -1
def scalarC(E:CEnv)(s:ByteArray):Int×Int:=
  if 0≤paramC E s then (paramC E s,1) else if placeL specials s<13 then (placeL specials s,2) else (placeL E.info.scalars s,0)
def arrayC(E:CEnv)(s:ByteArray):Int×Int:=if 0≤paramC E s then (paramC E s,1) else (placeL E.info.arrays s,0)
def flagsOf(E:CEnv)(i:Nat):List Bool:=E.info.params.getD i []
def isArrC(E:CEnv)(s:ByteArray):Bool:=
  if 0≤paramC E s then (flagsOf E (E.fn -1)).getD (paramC E s).toNat false else decide (placeL E.info.arrays s<E.info.arrays.length)
def nul:ByteArray:=bs []
def noneN:Node:= .mk 0 nul 0 [] 0 0
def kidL(l:List Node)(i:Nat):Node:=l.getD i noneN

abbrev ERec:=Node→Out→Option Out
def exprsC(rec:ERec):List Node→Out→Option Out
  | [],o=>some o
  | n::l,o=>do
    let o ←rec n o
    exprsC rec l o
def keyC(rec:ERec)(l:List Node)(o:Out):Option Out:=do
  let o ←exprsC rec l o
  if l.length=1 then some o else putC ⟨16,l.length,0,nul,0⟩ o
def regexC(rec:ERec)(n:Node)(o:Out):Option Out:=if n.kind=3 then putC ⟨2,0,0,n.name,0⟩ o else rec n o
def recordC(o:Out):Option Out:=do
  let o ←putC ⟨1,0,0,nul,0⟩ o
  putC ⟨12,0,0,nul,0⟩ o
def storeC(E:CEnv)(rec:ERec)(n:Node)(s:ByteArray)(v e f:Int)(val:List Node)(o:Out):Option Out:=
  if n.kind=4 then do
    let o ←exprsC rec val o
    putC ⟨v,(scalarC E n.name).1,(scalarC E n.name).2,s,0⟩ o
  else if n.kind=5 then do
    let o ←keyC rec n.kids o
    let o ←exprsC rec val o
    putC ⟨e,(arrayC E n.name).1,(arrayC E n.name).2,s,0⟩ o
  else do
    let o ←rec (kidL n.kids 0) o
    let o ←exprsC rec val o
    putC ⟨f,0,0,s,0⟩ o
def one64:Nat:=4607182418800017408
def eitherC(rec:ERec)(kids:List Node)(jump:Int)(other one:Nat)(o:Out):Option Out:=do
  let o ←rec (kidL kids 0) o
  let x:=o.length
  let o ←putC ⟨jump,0,0,nul,0⟩ o
  let o ←rec (kidL kids 1) o
  let y:=o.length
  let o ←putC ⟨jump,0,0,nul,0⟩ o
  let o ←putC ⟨1,0,0,nul,other⟩ o
  let z:=o.length
  let o ←putC ⟨25,0,0,nul,0⟩ o
  let o ←landC o.length [x,y] o
  let o ←putC ⟨1,0,0,nul,one⟩ o
  landC o.length [z] o
def callsC(E:CEnv)(rec:ERec):List Bool→List Node→Out→Option Out
  |_,[],o=>some o
  | ps,k::l,o=>do
    let o ←(if k.kind=4∧ps.headD false=true then putC ⟨33,(arrayC E k.name).1,(arrayC E k.name).2,nul,0⟩ o else rec k o)
    callsC E rec ps.tail l o
def callC(E:CEnv)(rec:ERec)(name:ByteArray)(kids:List Node)(o:Out):Option Out:=
  if flook E.g name=0 then some o else do
    let o ←callsC E rec (flagsOf E (flook E.g name -1)) kids o
    putC ⟨35,(flook E.g name:Int) -1,kids.length,nul,0⟩ o
def nMatch:ByteArray:=bs [109,97,116,99,104]
def substC(E:CEnv)(rec:ERec)(name:ByteArray)(kids:List Node)(o:Out):Option Out:=do
  let o ←regexC rec (kidL kids 0) o
  let o ←rec (kidL kids 1) o
  if kids.length<3 then do
    let o ←putC ⟨1,0,0,nul,0⟩ o
    putC ⟨40,0,5,name,0⟩ o
  else if (kidL kids 2).kind=4 then putC ⟨40,(scalarC E (kidL kids 2).name).1,(scalarC E (kidL kids 2).name).2,name,0⟩ o
  else if (kidL kids 2).kind=5 then do
    let o ←keyC rec (kidL kids 2).kids o
    putC ⟨40,(arrayC E (kidL kids 2).name).1,(arrayC E (kidL kids 2).name).2+3,name,0⟩ o
  else do
    let o ←rec (kidL (kidL kids 2).kids 0) o
    putC ⟨40,0,5,name,0⟩ o
/-- How many, as a float: two or three. -/
def fltJ(n:Nat):Option Nat:=if n=2 then some 4611686018427387904 else if n=3 then some 4613937818241073152 else none
def builtC(E:CEnv)(rec:ERec)(name:ByteArray)(kids:List Node)(o:Out):Option Out:=
  if name=nLength then
    if (kidL kids 0).kind=4∧isArrC E (kidL kids 0).name=true then putC ⟨34,(arrayC E (kidL kids 0).name).1,(arrayC E (kidL kids 0).name).2,nul,0⟩ o
    else do
      let o ←(if kids.length=0 then recordC o else rec (kidL kids 0) o)
      putC ⟨37,1,0,name,0⟩ o
  else if name=nSplit then do
    let x ←fltJ kids.length
    let o ←rec (kidL kids 0) o
    let o ←(if kids.length=3 then regexC rec (kidL kids 2) o else some o)
    putC ⟨38,(arrayC E (kidL kids 1).name).1,(arrayC E (kidL kids 1).name).2,nul,x⟩ o
  else if name=nExpire then do
    let o ←rec (kidL kids 1) o
    putC ⟨39,(arrayC E (kidL kids 0).name).1,(arrayC E (kidL kids 0).name).2,nul,0⟩ o
  else if name=nSub∨name=nGsub then substC E rec name kids o
  else if name=nMatch then do
    let o ←rec (kidL kids 0) o
    let o ←regexC rec (kidL kids 1) o
    putC ⟨37,2,0,name,0⟩ o
  else do
    let o ←exprsC rec kids o
    putC ⟨37,kids.length,0,name,0⟩ o
def tilde:ByteArray:=bs [126]
def condC(rec:ERec)(kids:List Node)(o:Out):Option Out:=do
  let o ←rec (kidL kids 0) o
  let x:=o.length
  let o ←putC ⟨26,0,0,nul,0⟩ o
  let o ←rec (kidL kids 1) o
  let y:=o.length
  let o ←putC ⟨25,0,0,nul,0⟩ o
  let o ←landC o.length [x] o
  let o ←rec (kidL kids 2) o
  landC o.length [y] o
/-- Beyond the bounds. -/
def bigK(name:ByteArray)(l:List Node):Bool:=decide (1000000<name.size)||decide (1000000<l.length)||l.any fun k=>decide (1000000<k.kids.length)
/-- An expression. -/
def exprC(E:CEnv)(rec:ERec)(kd:Int)(name:ByteArray)(num:Nat)(kids:List Node)(o:Out):Option Out:=
  if bigK name kids=true then none
  else if kd=1 then putC ⟨1,0,0,nul,num⟩ o
  else if kd=2 then putC ⟨2,0,0,name,0⟩ o
  else if kd=3 then do
    let o ←recordC o
    let o ←putC ⟨2,0,0,name,0⟩ o
    putC ⟨23,0,0,tilde,0⟩ o
  else if kd=4 then putC ⟨4,(scalarC E name).1,(scalarC E name).2,nul,0⟩ o
  else if kd=5∨kd=11 then do
    let o ←keyC rec kids o
    putC ⟨if kd=11 then 17 else 8,(arrayC E name).1,(arrayC E name).2,nul,0⟩ o
  else if kd=6 then do
    let o ←rec (kidL kids 0) o
    putC ⟨12,0,0,nul,0⟩ o
  else if kd=7 then
    if name=bs [61] then storeC E rec (kidL kids 0) nul 5 9 13 [kidL kids 1] o
    else if name.size<2 then none
    else storeC E rec (kidL kids 0) (name.extract 0 (name.size -1)) 6 10 14 [kidL kids 1] o
  else if kd=17 then storeC E rec (kidL kids 0) (name++bs [120]) 7 11 15 [] o
  else if kd=18 then storeC E rec (kidL kids 0) (bs [120]++name) 7 11 15 [] o
  else if kd=8 then condC rec kids o
  else if kd=9 then eitherC rec kids 27 0 one64 o
  else if kd=10 then eitherC rec kids 26 one64 0 o
  else if kd=12 then do
    let o ←rec (kidL kids 0) o
    let o ←regexC rec (kidL kids 1) o
    putC ⟨23,0,0,name,0⟩ o
  else if kd=13 then do
    let o ←exprsC rec kids o
    putC ⟨22,0,0,name,0⟩ o
  else if kd=14 then do
    let o ←exprsC rec kids o
    putC ⟨21,0,0,nul,0⟩ o
  else if kd=15 then do
    let o ←exprsC rec kids o
    putC ⟨20,0,0,name,0⟩ o
  else if kd=16 then do
    let o ←exprsC rec kids o
    putC ⟨24,0,0,name,0⟩ o
  else if kd=19 then callC E rec name kids o
  else if kd=20 then builtC E rec name kids o
  else some o
/-- A code, and the loops that are open, the innermost ahead: where their breaks and continues stand. -/
structure CS where
  out:Out
  ls:List (List Nat×List Nat)
def CS.on(st:CS)(r:Option Out):Option CS:=r.map fun o=>⟨o,st.ls⟩
structure PartP where
  kind:Int
  n:Int
  pats:List Out
  body:Out
  params:List Bool
structure CodeP where
  rules:List PartP
  funcs:List PartP
  scalars:Nat
  arrays:Nat
end Go.Proofs.YteafcepaolofpaaGreatDoor
end
section
/- The writer of a code in memory. -/
namespace Go.Proofs.YteafcepaolofpaaGreatDoor
open Go.RowKit

structure WKey where
  E:CEnv
  w0:World
  c:Nat
  ra:Option Addr
  rc:Nat
  fa:Option Addr
  fc:Nat
  sa:Option Addr
  sc:Nat
  aa:Option Addr
  ac:Nat
  pa:Option Addr
  pc:Nat
structure WFix (K:WKey):Prop where
  funcs:SliceR FuncE K.w0 (fun _=>True) K.E.g.funcs (.slice K.fa K.E.g.funcs.length K.fc)
  scal:SliceR StrE K.w0 (fun _=>True) K.E.info.scalars (.slice K.sa K.E.info.scalars.length K.sc)
  arr:SliceR StrE K.w0 (fun _=>True) K.E.info.arrays (.slice K.aa K.E.info.arrays.length K.ac)
  pars:SliceR FlagsE K.w0 (fun _=>True) K.E.info.params (.slice K.pa K.E.info.params.length K.pc)
  c:K.w0.heap.size≤K.c
  small:K.E.g.funcs.length≤1000000
  psmall:∀f∈K.E.g.funcs,f.params.length≤1000000
  ssmall:K.E.info.scalars.length≤1000000
  asmall:K.E.info.arrays.length≤1000000
  fn:K.E.fn≤K.E.g.funcs.length
  plen:K.E.info.params.length=K.E.g.funcs.length
  each:∀i (h:i<K.E.g.funcs.length),(flagsOf K.E i).length=K.E.g.funcs[i].params.length
def inC(x:Ins):List Value:= [.int .i64 x.op,.int .i64 x.a,.int .i64 x.b,.string x.s,.float .f64 x.n]
theorem inL(x:Ins):(inC x).length=5:=rfl
theorem in1(x:Ins):∀u∈inC x,u.oneCell'=true:=by intro u hu;simp [inC] at hu;rcases hu with rfl|rfl|rfl|rfl|rfl<;>rfl
theorem infoIns:∃i,Tryz.prog.info? 50=some i∧i.zero=some (.agg #[.int .i64 0,.int .i64 0,.int .i64 0,.string ⟨#[]⟩,.float .f64 0])∧i.size=5∧i.bytes=48:=by
  have h:(Tryz.prog.info? 50).map (fun i=>(i.zero,i.size,i.bytes))=some (some (.agg #[.int .i64 0,.int .i64 0,.int .i64 0,.string ⟨#[]⟩,.float .f64 0]),5,48):=by kernel_rfl
  cases hi:Tryz.prog.info? 50 with
  |none=>rw [hi] at h;cases h
  |some i=>rw [hi] at h;simp at h;exact ⟨i,rfl,h.1,h.2.1,h.2.2⟩
abbrev wC(K:WKey)(oa:Option Addr)(oc:Nat)(o:Out)(lv:Value):Obj:=
  .cells #[.slice K.ra K.E.g.rules.length K.rc,.slice K.fa K.E.g.funcs.length K.fc,.slice K.sa K.E.info.scalars.length K.sc,.slice K.aa K.E.info.arrays.length K.ac,.slice K.pa K.E.info.params.length K.pc,.int .i64 K.E.fn,.slice oa o.length oc,lv] 64 (0,0)
/-- The writer, with the code o; lv: its loops. -/
structure CW (K:WKey) (oa:Option Addr) (oc:Nat) (o:Out) (lv:Value) (W:World):Prop where
  keep:Keeps [] K.w0 W
  row:W.heap[K.c]? =some (wC K oa oc o lv)
  out:RowD 50 5 inC W K.w0.heap.size o oa oc
abbrev cts:List TypeId:= [64,50]
/-- A function of the program. -/
theorem CW.func{K:WKey}(hK:WFix K){oa:Option Addr}{oc:Nat}{o:Out}{lv:Value}{W:World}(h:CW K oa oc o lv W){i:Nat}(hi:i<K.E.g.funcs.length):
    ∃g of pa pc,K.fa=some ⟨g,of,none⟩∧W.cell? ⟨g,of+i*8+1,none⟩=some (.slice pa K.E.g.funcs[i].params.length pc)∧SliceR StrE K.w0 (fun _=>True) K.E.g.funcs[i].params (.slice pa K.E.g.funcs[i].params.length pc)∧g<W.heap.size:=by
  obtain ⟨g,of,cap,c,hv,-,hg,⟨pa,pc,b0,b1,b2,b3,b4,rfl,hp,hn⟩,hc⟩:=hK.funcs.get funcL hi
  have hfa:K.fa=some ⟨g,of,none⟩:=by injection hv
  refine ⟨g,of,pa,pc,hfa, ?_,hp,Nat.lt_of_lt_of_le hg h.keep.size⟩
  rw [World.cell?_of_block (w:=K.w0) (a:=⟨g,of+i*8+1,none⟩) (h.keep.block g hg (by simp)),Nat.add_assoc]
  exact hc 1 _ rfl
/-- A step of the writer. -/
def ownOf(K:WKey)(W:World):Option Nat:=match W.cell? ⟨K.c,6,none⟩ with
  |some (.slice (some a) _ _)=>some a.block
  |_=>none
theorem ownOf_eq{K:WKey}{W W':World}(h:W'.heap[K.c]? =W.heap[K.c]?):ownOf K W'=ownOf K W:=by
  unfold ownOf
  rw [World.cell?_of_block (w:=W) (a:=⟨K.c,6,none⟩) h]
structure WStep (K:WKey) (W W':World):Prop where
  kt:KT cts W W'
  lt:K.c<W.heap.size
  blk:∀k,k<W.heap.size→k≠K.c→ownOf K W≠some k→W'.heap[k]? =W.heap[k]?
  own:ownOf K W'=ownOf K W∨∃g,ownOf K W'=some g∧W.heap.size≤g
theorem WStep.refl{K:WKey}{W:World}(h:K.c<W.heap.size):WStep K W W:=⟨KT.refl _ _,h,fun _ _ _ _=>rfl,.inl rfl⟩
theorem WStep.trans{K:WKey}{a b c:World}(h:WStep K a b)(k:WStep K b c):WStep K a c:=
  ⟨h.kt.trans k.kt,h.lt,fun i hi hc ho=>(k.blk i (Nat.lt_of_lt_of_le hi h.kt.size) hc fun e=>by
      rcases h.own with h1|⟨g,h1,h2⟩
      · exact ho (h1▸e)
      · rw [h1] at e;injection e with e;omega).trans (h.blk i hi hc ho),by
    rcases k.own with k1|⟨g,k1,k2⟩
    · rw [k1];exact h.own
    · exact .inr ⟨g,k1,Nat.le_trans h.kt.size k2⟩⟩
theorem WStep.add{K:WKey}{a b c:World}(h:WStep K a b)(k:Keeps [] b c):WStep K a c:=
  have hl:=Nat.lt_of_lt_of_le h.lt h.kt.size
  h.trans ⟨KT.of0 k,hl,fun i hi _ _=>k.block i hi (by simp),.inl (ownOf_eq (k.block _ hl (by simp)))⟩
theorem WStep.at{K:WKey}{w w':World}(h:WStep K w w'){b:Nat}{c:Array Value}{t:TypeId}{f:Nat×Nat}(hb:w.heap[b]? =some (.cells c t f))(ht:t∉cts):w'.heap[b]? =some (.cells c t f):=h.kt.at hb ht
theorem CW.kp{K:WKey}{oa:Option Addr}{oc:Nat}{o:Out}{lv:Value}{W W':World}{ts:List TypeId}(h:CW K oa oc o lv W)(hk:KT ts W W')(h0:Keeps [] K.w0 W')(hc:64∉ts)(ht:50∉ts):CW K oa oc o lv W':=
  ⟨h0,hk.at h.row hc,h.out.kp fun g c hg _=>(hk.at hg ht).trans hg.symm⟩
theorem CW.kp0{K:WKey}{oa:Option Addr}{oc:Nat}{o:Out}{lv:Value}{W W':World}(h:CW K oa oc o lv W)(hk:Keeps [] W W'):CW K oa oc o lv W':=h.kp (KT.of0 (ts:= []) hk) (h.keep.trans hk (by simp)) (by simp) (by simp)
theorem CW.lt{K:WKey}{oa:Option Addr}{oc:Nat}{o:Out}{lv:Value}{W:World}(h:CW K oa oc o lv W):K.c<W.heap.size:=h_lt h.row
theorem CW.ownE{K:WKey}{oa:Option Addr}{oc:Nat}{o:Out}{lv:Value}{W:World}(h:CW K oa oc o lv W):ownOf K W=(Value.slice oa o.length oc).ownBlock:=by
  have h6:W.cell? ⟨K.c,6,none⟩=some (.slice oa o.length oc):=cell_of_heap h.row 6
  unfold ownOf
  rw [h6]
  cases oa<;>rfl
/-- The code has grown, and the writer knows. -/
theorem CW.grew{K:WKey}(hK:WFix K){oa:Option Addr}{oc:Nat}{o:Out}{lv:Value}{w1 w2 w3:World}{g cp:Nat}{y:Ins}(h:CW K oa oc o lv w1)(hr:RowD 50 5 inC w2 K.w0.heap.size (o++ [y]) (some ⟨g,0,none⟩) cp)(hk:KT [50] w1 w2)(h0:∀k,k<K.w0.heap.size→w2.heap[k]? =w1.heap[k]?)
    (h5:∀k,k<w1.heap.size→(Value.slice oa o.length oc).ownBlock≠some k→w2.heap[k]? =w1.heap[k]?) (h6:(Value.slice oa o.length oc).ownBlock=some g∨g=w1.heap.size)
    (hk2:Keeps [K.c] w2 w3) (hrow:w3.heap[K.c]? =some (wC K (some ⟨g,0,none⟩) cp (o++ [y]) lv)):CW K (some ⟨g,0,none⟩) cp (o++ [y]) lv w3∧WStep K w1 w3:=by
  have k2:KT [64] w2 w3:=KT.ofOne hk2 (hk.at h.row (by simp)) (by simp)
  have up:∀{ts:List TypeId} {a b:World},KT ts a b→(∀t∈ts,t∈cts)→KT cts a b:=fun hk hs=>⟨hk.os,hk.tape,hk.output,hk.size,fun k hl hn=>hk.block k hl fun c t f hc hm=>hn c t f hc (hs t hm)⟩
  have k12:KT cts w1 w3:=KT.trans (up hk (by simp)) (up k2 (by simp))
  have hs:=hk.size;have hs0:=h.keep.size
  have hcw:CW K (some ⟨g,0,none⟩) cp (o++ [y]) lv w3:=by
    refine ⟨⟨k12.os.trans h.keep.os,k12.tape.trans h.keep.tape,k12.output.trans h.keep.output,Nat.le_trans h.keep.size k12.size,fun k hl _=> ?_⟩,hrow,hr.kp fun g' c hg' _=>(k2.at hg' (by simp)).trans hg'.symm⟩
    have hkc:k≠K.c:=by have:=hK.c;omega
    rw [hk2.block k (by omega) (by simpa using hkc),h0 k hl]
    exact h.keep.block k hl (by simp)
  refine ⟨hcw,k12,h.lt,fun k hl hc ho=> ?_, ?_⟩
  · rw [h.ownE] at ho
    rw [hk2.block k (by omega) (by simpa using hc),h5 k hl ho]
  · rw [hcw.ownE,h.ownE]
    rcases h6 with h6|h6
    · exact .inl h6.symm
    · exact .inr ⟨g,rfl,by omega⟩
theorem whereC_any{K:WKey}{oa:Option Addr}{oc:Nat}{o:Out}{lv:Value}{w:World}(h:CW K oa oc o lv w):Calls Tryz.prog 39 #[.pointer (some ⟨K.c,0,none⟩)] w fun r w'=>r= .returned (.int .i64 o.length)∧w'=w:=by
  have c6:=cell_of_heap h.row 6;have y6:=frozen_of_heap h.row 6
  simp at c6
  clear h
  go_enter Tryz.func39,Tryz.ntmps39
  go_wp2_with fail
  exact bodyPost_ret (v:= .int .i64 o.length) (by simp [results,Tryz.results39,go_sem]) rfl ⟨rfl,rfl⟩
theorem wput_any{K:WKey}(hK:WFix K){oa:Option Addr}{oc:Nat}{o o':Out}{lv:Value}{w:World}(h:CW K oa oc o lv w)(x:Ins)(hp:putC x o=some o'):Calls Tryz.prog 17 #[.pointer (some ⟨K.c,0,none⟩),.agg #[.int .i64 x.op,.int .i64 x.a,.int .i64 x.b,.string x.s,.float .f64 x.n]] w fun r w'=>r= .returned (.int .i64 o.length)∧(∃oa' oc',CW K oa' oc' o' lv w')∧WStep K w w':=by
  obtain ⟨hul,rfl⟩:o.length<4000000∧o'=o++ [x]:=by
    unfold putC at hp;split at hp
    · rename_i h;exact ⟨h,by simpa using hp.symm⟩
    · cases hp
  have HD:=Lib.hid h
  obtain ⟨i50,hi50⟩:=infoIns
  have HI:=Lib.hid hi50
  clear h hp hi50
  go_enter Tryz.func17,Tryz.ntmps17
  have l_c:=HD.out.lt
  have c6:=cell_of_heap HD.out.row 6;have y6:=frozen_of_heap HD.out.row 6
  simp at c6
  go_wp2_with fail
  go_region_law (refine step_at (fun W=>Keeps [] w W∧W.heap[w.heap.size+1]? =some (.cells (inC x).toArray 50 (0,0))) ⟨kps,cel⟩ ?_;rintro wa ⟨hka,cG⟩;refine row_step inL in1 rfl (.tmp 9) (.tmp 11) rfl Tryz.underlying43 HI.out.1 HI.out.2.1 HI.out.2.2.1 HI.out.2.2.2 rfl (by decide) (by decide) rfl rfl (HD.out.kp0 hka).out (x:=x) ⟨_,cG⟩ (HD.out.kp0 hka).keep.size (Nat.le_of_lt hul) ?_;rintro g cp wb ⟨hro,hkt,hgt,hk0,hk5,hk6⟩;have HK5:=Lib.hid hk5;have HK6:=Lib.hid hk6;clear hk5 hk6;have r_c:=hkt.at (HD.out.kp0 hka).row (by simp);have lb:=h_lt r_c;have b6:=cell_of_heap r_c 6;have v6:=frozen_of_heap r_c 6;simp at b6)
  all_goals
    go_wp2_with fail
    refine ret_at (v:= .int .i64 o.length) (fun W=>Keeps [K.c] wb W∧W.heap[K.c]? =some (.cells #[.slice K.ra K.E.g.rules.length K.rc,.slice K.fa K.E.g.funcs.length K.fc,.slice K.sa K.E.info.scalars.length K.sc,.slice K.aa K.E.info.arrays.length K.ac,.slice K.pa K.E.info.params.length K.pc,.int .i64 K.E.fn,.slice (some ⟨g,0,none⟩) (o.length+1) cp,lv] 64 (0,0))) ⟨kps,celx r_c⟩ (fun w1 hW=>by simp [results,Tryz.results17,go_sem]) rfl (fun w1 hW=> ?_)
    have hgr:=(HD.out.kp0 hka).grew hK hro hkt hk0 HK5.out HK6.out hW.1 (by rw [hW.2];simp)
    exact ⟨rfl,⟨_,_,hgr.1⟩,((WStep.refl HD.out.lt).add hka).trans hgr.2⟩
end Go.Proofs.YteafcepaolofpaaGreatDoor
end
section
/- How a walk of the writer stands; record, place. -/
namespace Go.Proofs.YteafcepaolofpaaGreatDoor
open Go.RowKit

/-- How a walk stands: the writer has the code o, and since w but blocks of its own were turned. -/
structure WAt (K:WKey) (w:World) (o:Out) (lv:Value) (W:World):Prop where
  cw:∃oa oc,CW K oa oc o lv W
  st:WStep K w W
section
variable {K:WKey} {w W V:World} {o o':Out} {lv:Value} {R:Ending→World→Prop} {x:Ins}
theorem WAt.start{oa:Option Addr}{oc:Nat}(h:CW K oa oc o lv w):WAt K w o lv w:=⟨⟨_,_,h⟩,WStep.refl h.lt⟩
theorem WAt.kp(h:WAt K w o lv W)(hk:Keeps [] W V):WAt K w o lv V:=by
  obtain ⟨⟨oa,oc,h1⟩,h2⟩:=h
  exact ⟨⟨oa,oc,h1.kp0 hk⟩,h2.add hk⟩
theorem WAt.put(h:WAt K w o lv W)(hK:WFix K)(hp:putC x o=some o')(q:∀W',WAt K w o' lv W'→R (.returned (.int .i64 o.length)) W')(hk:Keeps [] W V:=by with_reducible repeat (first|exact k0 _ _|refine kA ?_ _|refine kD ?_|refine kS ?_ (by simp)|refine kM ?_ (by simp))):
    Calls Tryz.prog 17 #[.pointer (some ⟨K.c,0,none⟩),.agg #[.int .i64 x.op,.int .i64 x.a,.int .i64 x.b,.string x.s,.float .f64 x.n]] V R:=by
  obtain ⟨⟨oa,oc,h1⟩,h2⟩:=h.kp hk
  exact (wput_any hK h1 x hp).mono fun r W' ⟨e,hc,hs⟩=>e▸q W' ⟨hc,h2.trans hs⟩
/-- What a function of the writer that tells nothing does. -/
def WP(K:WKey)(o':Out)(lv:Value)(w:World)(r:Ending)(w':World):Prop:=r= .returned (.tuple #[])∧(∃oa oc,CW K oa oc o' lv w')∧WStep K w w'
theorem WAt.fin(h:WAt K w o lv W):WP K o lv w (.returned (.tuple #[])) W:=⟨rfl,h.cw,h.st⟩
theorem WAt.call{f:FuncId}{args:Array Value}(h:WAt K w o lv W)(hc:∀{oa oc},CW K oa oc o lv V→Calls Tryz.prog f args V fun r w'=>WP K o' lv V r w')(q:∀W',WAt K w o' lv W'→R (.returned (.tuple #[])) W')(hk:Keeps [] W V:=by with_reducible repeat (first|exact k0 _ _|refine kA ?_ _|refine kD ?_|refine kS ?_ (by simp)|refine kM ?_ (by simp))):Calls Tryz.prog f args V R:=by
  obtain ⟨⟨oa,oc,h1⟩,h2⟩:=h.kp hk
  exact (hc h1).mono fun r W' ⟨e,hc,hs⟩=>e▸q W' ⟨hc,h2.trans hs⟩
end
theorem wrecord_any{K:WKey}(hK:WFix K){oa:Option Addr}{oc:Nat}{o o':Out}{lv:Value}{w:World}(h:CW K oa oc o lv w)(hx:recordC o=some o'):Calls Tryz.prog 32 #[.pointer (some ⟨K.c,0,none⟩)] w fun r w'=>WP K o' lv w r w':=by
  unfold recordC at hx
  simp only [Option.bind_eq_bind,Option.bind_eq_some_iff] at hx
  obtain ⟨o1,h1,hx⟩:=hx
  have HB:=WAt.start h
  clear h
  go_enter Tryz.func32,Tryz.ntmps32
  go_wp2_with fail
  refine HB.put (x:=⟨1,0,0,nul,0⟩) hK h1 ?_
  clear HB
  intro _ HB
  go_wp2_with fail
  refine HB.put (x:=⟨12,0,0,nul,0⟩) hK hx ?_
  clear HB
  intro _ HB
  go_wp2_with fail
  go_end0
  exact HB.fin
/-- A string of a list, where it lies. -/
theorem strAt{w0 W:World}(h:Keeps [] w0 W){l:List ByteArray}{a:Option Addr}{cap:Nat}(hs:SliceR StrE w0 (fun _=>True) l (.slice a l.length cap)){i:Nat}(hi:i<l.length):∃g o,a=some ⟨g,o,none⟩∧W.cell? ⟨g,o+i,none⟩=some (.string l[i]):=by
  obtain ⟨g,o,cap,c,hv,-,hg,rfl,hc⟩:=hs.get strL hi
  have hfa:a=some ⟨g,o,none⟩:=by injection hv
  refine ⟨g,o,hfa, ?_⟩
  rw [World.cell?_of_block (w:=w0) (a:=⟨g,o+i,none⟩) (h.block g hg (by simp))]
  simpa using hc 0 _ rfl
def PlI(s:ByteArray)(l:List ByteArray)(w:World)(v:Nat)(g:Nat)(j:Value)(wr:World):Prop:=∃k:Nat,j= .int .i64 k∧k≤l.length∧l.length+1=g+k∧k+placeL (l.drop k) s=v∧wr=w
/-- Where a name stands in a list. -/
theorem wplace_any{w0 w:World}(hk:Keeps [] w0 w){l:List ByteArray}{a:Option Addr}{cap:Nat}(hl:SliceR StrE w0 (fun _=>True) l (.slice a l.length cap))(hs:l.length≤1000000)(s:ByteArray):
    Calls Tryz.prog 71 #[.slice a l.length cap,.string s] w fun r w'=>r= .returned (.int .i64 (placeL l s))∧w'=w:=by
  have HK:=Lib.hid hk;have HL:=Lib.hid hl
  clear hk hl
  go_enter Tryz.func71,Tryz.ntmps71
  go_wp2_with fail
  go_loopg [9] (l.length+1) (fun g j wr=>PlI s l w (placeL l s) g j wr)
  case atStart=>exact ⟨0,rfl,Nat.zero_le _,rfl,by simp,rfl⟩
  case round=>
    obtain ⟨k,rfl,hk1,hk2,hm,rfl⟩:=hrel
    by_cases hlt:k<l.length
    · obtain ⟨g2,o2,rfl,d0⟩:=strAt HK.out HL.out hlt
      rw [List.drop_eq_getElem_cons hlt,placeL] at hm
      generalize l[k]=q at*
      by_cases heq:same q s=true
      · rw [if_pos heq] at hm
        have heb:(q.toList==s.toList)=true:=by rw [same_eq];exact heq
        have HV:=Lib.hid hm.symm
        clear hm heq
        go_wp2_with fail
        refine ret_at (v:= .int .i64 k) (fun W=>W=wr) rfl (fun w1 hW=>by simp [results,Tryz.results71,go_sem]) rfl (fun w1 hW=>⟨by rw [HV.out];simp,hW⟩)
      · rw [if_neg heq] at hm
        simp only [Bool.not_eq_true] at heq
        have heb:(q.toList==s.toList)=false:=by rw [same_eq];exact heq
        have HM:=Lib.hid (show k+1+placeL (l.drop (k+1)) s=placeL l s from by omega)
        clear hm heq
        cases gk with
        |zero=>omega
        | succ f=>
          go_wp2_with fail
          go_roundg f
          case measure=>omega
          case rel=>exact ⟨k+1,by first|rfl|(simp;done)|(simp;omega),by omega,by omega,HM.out,rfl⟩
    · have hke:k=l.length:=by omega
      subst hke
      rw [List.drop_length,placeL] at hm
      have HV:=Lib.hid hm.symm
      clear hm
      go_wp2_with fail
      refine ret_at (v:= .int .i64 l.length) (fun W=>W=wr) rfl (fun w1 hW=>by simp [results,Tryz.results71,go_sem]) rfl (fun w1 hW=>⟨by rw [HV.out];simp,hW⟩)
end Go.Proofs.YteafcepaolofpaaGreatDoor
end
section
/- The writer: param, Specials, scalar, array. -/
namespace Go.Proofs.YteafcepaolofpaaGreatDoor
open Go.RowKit
theorem wrap_id{z:Int}(h1: -9223372036854775808≤z)(h2:z≤9223372036854775807):IntKind.i64.wrap z=z:=by rw [IntWalk.i64_left];unfold wrap64;omega
theorem paramsOf_at{g:ProgP}{n:Nat}(h0:0<n)(h:n≤g.funcs.length):paramsOf g n=(g.funcs[n -1]'(by omega)).params:=by
  unfold paramsOf
  rw [List.getElem?_eq_getElem (by omega)]
theorem wparam_any{K:WKey}(hK:WFix K){oa:Option Addr}{oc:Nat}{o:Out}{lv:Value}{w:World}(h:CW K oa oc o lv w)(s:ByteArray):
    Calls Tryz.prog 70 #[.pointer (some ⟨K.c,0,none⟩),.string s] w fun r w'=>r= .returned (.int .i64 (paramC K.E s))∧Keeps [] w w':=by
  have HC:=Lib.hid h
  have c5:=cell_of_heap h.row 5;have y5:=frozen_of_heap h.row 5
  have c1:=cell_of_heap h.row 1;have y1:=frozen_of_heap h.row 1
  simp at c5 c1
  clear h
  by_cases hfn:0<K.E.fn
  · have hle:=hK.fn
    have hp:=paramsOf_at hfn hle
    obtain ⟨g,of,pa,pc,hfa,d1,hps,lg⟩:=HC.out.func hK (i:=K.E.fn -1) (by omega)
    have hsm:=hK.psmall _ (List.getElem_mem (l:=K.E.g.funcs) (n:=K.E.fn -1) (by omega))
    rw [←hp] at d1 hps hsm
    have hpc:paramC K.E s=if placeL (paramsOf K.E.g K.E.fn) s<(paramsOf K.E.g K.E.fn).length then (placeL (paramsOf K.E.g K.E.fn) s:Int) else -1:=by
      unfold paramC
      by_cases hq:placeL (paramsOf K.E.g K.E.fn) s<(paramsOf K.E.g K.E.fn).length
      · rw [if_pos ⟨hfn,hq⟩,if_pos hq]
      · rw [if_neg (fun h=>hq h.2),if_neg hq]
    clear hp
    generalize paramsOf K.E.g K.E.fn=L at*
    have HPC:=Lib.hid hpc
    have HPS:=Lib.hid hps
    clear hpc hps
    rw [hfa] at c1
    obtain ⟨n,hn⟩:∃n,K.E.fn=n+1:=⟨K.E.fn -1,by omega⟩
    have hgt:decide ((0:Int)<(n:Int)+1)=true:=by simp
    rw [hn] at c5
    have hlen:n<K.E.g.funcs.length:=by omega
    rw [show K.E.fn -1=n from by omega] at d1
    simp at c5
    go_enter Tryz.func70,Tryz.ntmps70
    go_wp2_with fail
    have hwr:IntKind.i64.wrap (n:Int)=n:=wrap_id (by omega) (by have:=hK.small;omega)
    go_quiet (fail)
    go_wp2_with fail
    have HKQ:Hid (Keeps [] w (w.drewN nq)):=Lib.hid (Keeps.drewN [] w nq)
    generalize w.drewN nq=wq at*
    clear c1 c5 d1 y1 y5 lg hgt hwr hlen hfa
    go_loopg [26] (L.length+1) (fun g j wr=>PlI s L wq (placeL L s) g j wr)
    case atStart=>exact ⟨0,rfl,Nat.zero_le _,rfl,by simp,rfl⟩
    case round=>
      obtain ⟨k,rfl,hk1,hk2,hm,rfl⟩:=hrel
      by_cases hlt:k<L.length
      · obtain ⟨g2,o2,rfl,d0⟩:=strAt (HC.out.keep.trans (fp':= []) HKQ.out (by simp)) HPS.out hlt
        rw [List.drop_eq_getElem_cons hlt,placeL] at hm
        generalize L[k]=q at*
        by_cases heq:same q s=true
        · rw [if_pos heq] at hm
          have heb:(q.toList==s.toList)=true:=by rw [same_eq];exact heq
          have HV:=Lib.hid (show paramC K.E s=k from by rw [HPC.out,if_pos (by omega)];omega)
          clear hm heq
          go_wp2_with fail
          refine ret_at (v:= .int .i64 k) (fun W=>W=wr) rfl (fun w1 hW=>by simp [results,Tryz.results70,go_sem]) rfl (fun w1 hW=>⟨by rw [HV.out],by rw [hW];exact HKQ.out⟩)
        · rw [if_neg heq] at hm
          simp only [Bool.not_eq_true] at heq
          have heb:(q.toList==s.toList)=false:=by rw [same_eq];exact heq
          have HM:=Lib.hid (show k+1+placeL (L.drop (k+1)) s=placeL L s from by omega)
          clear hm heq
          cases gk with
          |zero=>omega
          | succ f=>
            go_wp2_with fail
            go_roundg f
            case measure=>omega
            case rel=>exact ⟨k+1,by first|rfl|(simp;done)|(simp;omega),by omega,by omega,HM.out,rfl⟩
      · have hke:k=L.length:=by omega
        subst hke
        rw [List.drop_length,placeL] at hm
        have HV:=Lib.hid (show paramC K.E s= -1 from by rw [HPC.out,if_neg (by omega)])
        clear hm
        go_wp2_with fail
        refine ret_at (v:= .int .i64 (-1)) (fun W=>W=wr) rfl (fun w1 hW=>by simp [results,Tryz.results70,go_sem]) rfl (fun w1 hW=>⟨by rw [HV.out],by rw [hW];exact HKQ.out⟩)
  · have h0:K.E.fn=0:=by omega
    rw [h0] at c5
    simp at c5
    go_enter Tryz.func70,Tryz.ntmps70
    go_wp2_with fail
    refine ret_at (v:= .int .i64 (-1)) (fun W=>Keeps [] w W) kps (fun w1 hW=>by simp [results,Tryz.results70,go_sem]) rfl (fun w1 hW=>⟨by unfold paramC;rw [if_neg (by omega)],hW⟩)
end Go.Proofs.YteafcepaolofpaaGreatDoor
end
section
/- The writer: array, scalar. -/
namespace Go.Proofs.YteafcepaolofpaaGreatDoor
open Go.RowKit
theorem par_pos{K:WKey}{s:ByteArray}(h:0≤paramC K.E s):∃n:Nat,paramC K.E s=n:=⟨(paramC K.E s).toNat,by omega⟩
theorem par_neg{K:WKey}{s:ByteArray}(h:¬0≤paramC K.E s):paramC K.E s= -1:=by
  unfold paramC at*
  split at h
  · omega
  · rename_i h2;rw [if_neg h2]
theorem warray_any{K:WKey}(hK:WFix K){oa:Option Addr}{oc:Nat}{o:Out}{lv:Value}{w:World}(h:CW K oa oc o lv w)(s:ByteArray):
    Calls Tryz.prog 35 #[.pointer (some ⟨K.c,0,none⟩),.string s] w fun r w'=>r= .returned (.tuple #[.int .i64 (arrayC K.E s).1,.int .i64 (arrayC K.E s).2])∧Keeps [] w w':=by
  have HC:=Lib.hid h
  clear h
  go_enter Tryz.func35,Tryz.ntmps35
  go_wp2_with fail
  refine (wparam_any hK HC.out s).mono ?_
  rintro r W ⟨rfl,hk⟩
  have HK1:=Lib.hid hk
  have HC1:=Lib.hid (HC.out.kp0 hk)
  clear hk
  by_cases hp:0≤paramC K.E s
  · obtain ⟨n,hn⟩:=par_pos hp
    rw [hn]
    have HV:=Lib.hid (show arrayC K.E s=((n:Int),1) from by unfold arrayC;rw [if_pos hp,hn])
    have hge:decide ((0:Int)≤(n:Int))=true:=by simp
    clear hp hn
    go_wp2_with fail
    refine ret_at (v:= .tuple #[.int .i64 n,.int .i64 1]) (fun V=>V=W) rfl (fun w1 hW=>by simp [results,Tryz.results35,go_sem]) rfl (fun w1 hW=>⟨by rw [HV.out],by rw [hW];exact HK1.out⟩)
  · rw [par_neg hp]
    have HV:=Lib.hid (show arrayC K.E s=((placeL K.E.info.arrays s:Int),0) from by unfold arrayC;rw [if_neg hp])
    clear hp
    have c3:=cell_of_heap HC1.out.row 3;have y3:=frozen_of_heap HC1.out.row 3
    simp at c3
    go_wp2_with fail
    refine (wplace_any HC1.out.keep hK.arr hK.asmall s).mono ?_
    rintro r W2 ⟨rfl,rfl⟩
    go_wp2_with fail
    refine ret_at (v:= .tuple #[.int .i64 (placeL K.E.info.arrays s),.int .i64 0]) (fun V=>V=W2) rfl (fun w1 hW=>by simp [results,Tryz.results35,go_sem]) rfl (fun w1 hW=>⟨by rw [HV.out],by rw [hW];exact HK1.out⟩)
end Go.Proofs.YteafcepaolofpaaGreatDoor
end
