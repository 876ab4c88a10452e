/- The document's tokens and parser, said plainly in Lean, as far as nothing is wrong and as far as the closed texts go (none: something else comes). -/
import Derived.Laws.Strings
import Derived.KernelRfl
import Derived.Laws.Cover2
set_option maxRecDepth 100000
set_option maxHeartbeats 4000000
set_option linter.unusedSimpArgs false
set_option linter.unusedVariables false
set_option linter.unusedSectionVars false
namespace Go.Proofs.YteafcepaolofpaaGreatDoor

def nthZ(s:ByteArray)(i:Nat):Option Int:=if h:i<s.size then some ((s[i]'h).toNat:Int) else none
def bs(l:List UInt8):ByteArray:=⟨l.toArray⟩
def same(a b:ByteArray):Bool:=a.data.toList==b.data.toList

def letterF(z:Int):Bool:=(decide (65≤z)&&decide (z≤90))||((decide (97≤z)&&decide (z≤122))||z==95)
def digitF(z:Int):Bool:=decide (48≤z)&&decide (z≤57)

def amongF(s w:ByteArray):Nat→Nat→Nat→Bool
  |0,_,_=>false
  | f+1,i,fr=>match nthZ s i with
    |none=>same (s.extract fr i) w||amongF s w f (i+1) (i+1)
    |some z=>if z=32 then same (s.extract fr i) w||amongF s w f (i+1) (i+1) else amongF s w f (i+1) fr
def among(s w:ByteArray):Bool:=amongF s w (s.size+1) 0 0

def skipF(s:ByteArray):Nat→Nat→Option Nat
  |0,_=>none
  | f+1,i=>match nthZ s i with
    |none=>some i
    |some z=>if z=32∨z=9∨z=13 then skipF s f (i+1) else if z=92∨z=35 then none else some i

def wordEndF(s:ByteArray):Nat→Nat→Option Nat
  |0,_=>none
  | f+1,i=>match nthZ s i with
    |none=>some i
    |some z=>if letterF z||digitF z then wordEndF s f (i+1) else some i

/-- Where a text ends that holds no backslash. -/
def closesF(s:ByteArray)(q:Int):Nat→Nat→Option Nat
  |0,_=>none
  | f+1,i=>match nthZ s i with
    |none=>none
    |some z=>if z=10 then none else if z=q then some i else if z=92 then none else closesF s q f (i+1)

/-- A numeral of one digit; none: another one. -/
def numeralF(s:ByteArray)(i:Nat):Option Nat:=match nthZ s i with
  |none=>some i
  | some z=>if digitF z then (match nthZ s (i+1) with
      |none=>some (i+1)
      |some y=>if digitF y||y==46||y==101||y==69 then none else some (i+1))
    else if z=46 then none else some i

def words:ByteArray:=bs [66,69,71,73,78,32,69,78,68,32,69,86,69,82,89,32,71,65,80,32,102,117,110,99,116,105,111,110,32,105,102,32,101,108,115,101,32,119,104,105,108,101,32,102,111,114,32,100,111,32,98,114,101,97,107,32,99,111,110,116,105,110,117,101,32,110,101,120,116,32,101,120,105,116,32,114,101,116,117,114,110,32,100,101,108,101,116,101,32,105,110,32,103,101,116,108,105,110,101,32,112,114,105,110,116,32,112,114,105,110,116,102]
def builts:ByteArray:=bs [108,101,110,103,116,104,32,115,117,98,115,116,114,32,105,110,100,101,120,32,115,112,108,105,116,32,115,117,98,32,103,115,117,98,32,109,97,116,99,104,32,115,112,114,105,110,116,102,32,116,111,108,111,119,101,114,32,116,111,117,112,112,101,114,32,105,110,116,32,115,113,114,116,32,101,120,112,32,108,111,103,32,115,105,110,32,99,111,115,32,97,116,97,110,50,32,114,97,110,100,32,115,114,97,110,100,32,101,120,112,105,114,101]
def signs2:ByteArray:=bs [38,38,32,124,124,32,43,43,32,45,45,32,43,61,32,45,61,32,42,61,32,47,61,32,37,61,32,94,61,32,61,61,32,60,61,32,62,61,32,33,61,32,33,126,32,62,62]
def signs1:ByteArray:=bs [123,32,125,32,40,32,41,32,91,32,93,32,59,32,44,32,43,32,45,32,42,32,47,32,37,32,94,32,33,32,62,32,60,32,124,32,63,32,58,32,126,32,36,32,61]
def isWord(t:ByteArray):Bool:=among words t
def isBuilt(t:ByteArray):Bool:=among builts t

/-- The sign that stands there (c: its first byte). -/
def signF(s:ByteArray)(i:Nat)(c:Int):Option ByteArray:=
  if decide (i+1<s.size)&&among signs2 (s.extract i (i+2)) then some (s.extract i (i+2))
  else if c !=32&&among signs1 (s.extract i (i+1)) then some (s.extract i (i+1)) else none

structure Tok where
  kind:Int
  text:ByteArray
  num:Nat
  fr:Nat
  to:Nat

/-- The float of a number of few digits. -/
def flt(n:Nat):Nat:=floatOfInt .f64 (n:Int)

def kindF(s t:ByteArray)(e:Nat):Int:=
  if isWord t then 8 else if isBuilt t then 7 else if nthZ s e==some 40 then 6 else 5

/-- Line and column of a place, as floats' bits. -/
def placeF(s:ByteArray):Nat→Nat→Nat→Nat→Nat×Nat
  |0,_,l,c=>(l,c)
  |f+1,i,l,c=>if nthZ s i=some 10 then placeF s f (i+1) (l+1) 1 else placeF s f (i+1) l (c+1)
def placeOf(s:ByteArray)(i:Nat):Nat×Nat:=let x:=placeF s i 0 1 1;(flt x.1,flt x.2)

def plainF(t:ByteArray):Bool:=t.data.toList.all fun b=>b !=92
def digF(s:ByteArray)(i:Nat):Bool:=match nthZ s i with
  |none=>false
  |some z=>digitF z

def textF(s:ByteArray)(a:Nat):Option Tok:=do
  let e ←closesF s 34 (s.size+1) (a+1)
  if plainF (s.extract (a+1) e) then some ⟨3,s.extract (a+1) e,0,a,e+1⟩ else none

def regexF(s:ByteArray)(a:Nat):Option Tok:=do
  let e ←closesF s 47 (s.size+1) (a+1)
  if plainF (s.extract (a+1) e) then some ⟨4,s.extract (a+1) e,0,a,e+1⟩ else none

def otherF(s:ByteArray)(a:Nat)(c:Int):Option Tok:=do
  let e ←numeralF s a
  if a<e then (if c=49∨c=50 then some ⟨2,s.extract a e,flt (c -48).toNat,a,e⟩ else none)
  else do
    let x ←signF s a c
    some ⟨9,x,0,a,a+x.size⟩

/-- The token that comes; none: an error, or what is not spoken of here. -/
def nextF(s:ByteArray)(i:Nat)(operand:Bool):Option Tok:=do
  let a ←skipF s (s.size+1) (min i s.size)
  match nthZ s a with
  |none=>some ⟨0,bs [],0,a,a⟩
  | some c=>
    if c=10 then some ⟨1,bs [],0,a,a+1⟩
    else if letterF c then do
      let e ←wordEndF s (s.size+1) a
      some ⟨kindF s (s.extract a e) e,s.extract a e,0,a,e⟩
    else if c=34 then textF s a
    else if c=47&&operand then regexF s a
    else otherF s a c
end Go.Proofs.YteafcepaolofpaaGreatDoor
