/- Spec. -/
import Derived.Laws.Strings
import Derived.KernelRfl
import Derived.Laws.Cover2
set_option maxRecDepth 100000
set_option maxHeartbeats 4000000
set_option linter.unusedSimpArgs false
set_option linter.unusedVariables false
namespace Go.Proofs.YtkfillfkbhbbjaaGreatDoor
def Nc(s:ByteArray)(i:Nat):Option Int:=if h:i<s.size then some ((s[i]'h).toNat:Int) else none
def bs(l:List UInt8):ByteArray:=⟨l.toArray⟩
def same(a b:ByteArray):Bool:=a.data.toList==b.data.toList
def Db(z:Int):Bool:=(decide (65≤z)&&decide (z≤90))||((decide (97≤z)&&decide (z≤122))||z==95)
def Fp(z:Int):Bool:=decide (48≤z)&&decide (z≤57)
def Iz(s w:ByteArray):Nat→Nat→Nat→Bool
 |0,_,_=>false
 | f+1,i,fr=>match Nc s i with
   |none=>same (s.extract fr i) w||Iz s w f (i+1) (i+1)
   |some z=>if z=32 then same (s.extract fr i) w||Iz s w f (i+1) (i+1) else Iz s w f (i+1) fr
def Gj(s w:ByteArray):Bool:=Iz s w (s.size+1) 0 0
def Mw(s:ByteArray):Nat→Nat→Option Nat
 |0,_=>none
 | f+1,i=>match Nc s i with
   |none=>some i
   |some z=>if z=32∨z=9∨z=13 then Mw s f (i+1) else if z=92∨z=35 then none else some i
def Fg(s:ByteArray):Nat→Nat→Option Nat
 |0,_=>none
 | f+1,i=>match Nc s i with
   |none=>some i
   |some z=>if Db z||Fp z then Fg s f (i+1) else some i
def Fz(s:ByteArray)(i:Nat):Option Nat:=match Nc s i with
 |none=>some i
 | some z=>if Fp z then (match Nc s (i+1) with
    |none=>some (i+1)
    |some y=>if Fp y||y==46||y==101||y==69 then none else some (i+1))
   else if z=46 then none else some i
def VV:ByteArray:=bs [66,69,71,73,78,32,69,78,68,32,69,86,69,82,89,32,71,65,80,32,102,117,110,99,116,105,111,110,32,105,102,32,101,108,115,101,32,119,104,105,108,101,32,102,111,114,32,100,111,32,98,114,101,97,107,32,99,111,110,116,105,110,117,101,32,110,101,120,116,32,101,120,105,116,32,114,101,116,117,114,110,32,100,101,108,101,116,101,32,105,110,32,103,101,116,108,105,110,101,32,112,114,105,110,116,32,112,114,105,110,116,102]
def QS:ByteArray:=bs [108,101,110,103,116,104,32,115,117,98,115,116,114,32,105,110,100,101,120,32,115,112,108,105,116,32,115,117,98,32,103,115,117,98,32,109,97,116,99,104,32,115,112,114,105,110,116,102,32,116,111,108,111,119,101,114,32,116,111,117,112,112,101,114,32,105,110,116,32,115,113,114,116,32,101,120,112,32,108,111,103,32,115,105,110,32,99,111,115,32,97,116,97,110,50,32,114,97,110,100,32,115,114,97,110,100,32,101,120,112,105,114,101]
def AK:ByteArray:=bs [38,38,32,124,124,32,43,43,32,45,45,32,43,61,32,45,61,32,42,61,32,47,61,32,37,61,32,94,61,32,61,61,32,60,61,32,62,61,32,33,61,32,33,126,32,62,62]
def Vj:ByteArray:=bs [123,32,125,32,40,32,41,32,91,32,93,32,59,32,44,32,43,32,45,32,42,32,47,32,37,32,94,32,33,32,62,32,60,32,124,32,63,32,58,32,126,32,36,32,61]
def AV(t:ByteArray):Bool:=Gj VV t
def Ut(t:ByteArray):Bool:=Gj QS t
def Fx(s:ByteArray)(i:Nat)(c:Int):Option ByteArray:=
 if decide (i+1<s.size)&&Gj AK (s.extract i (i+2)) then some (s.extract i (i+2))
 else if c !=32&&Gj Vj (s.extract i (i+1)) then some (s.extract i (i+1)) else none
structure Ud where
 kind:Int
 text:ByteArray
 num:Nat
 fr:Nat
 to:Nat
def flt(n:Nat):Nat:=floatOfInt .f64 (n:Int)
def Il(s t:ByteArray)(e:Nat):Int:=
 if AV t then 8 else if Ut t then 7 else if Nc s e==some 40 then 6 else 5
def Ix(s:ByteArray):Nat→Nat→Nat→Nat→Nat×Nat
 |0,_,l,c=>(l,c)
 |f+1,i,l,c=>if Nc s i=some 10 then Ix s f (i+1) (l+1) 1 else Ix s f (i+1) l (c+1)
def Ag(s:ByteArray)(i:Nat):Nat×Nat:=let x:=Ix s i 0 1 1;(flt x.1,flt x.2)
def Rc(s:ByteArray)(i:Nat):Bool:=match Nc s i with
 |none=>false
 |some z=>Fp z
def FS(s:ByteArray)(i a:Nat)(c:Int):Option Ud:=do
 let e ←Fz s a
 if a<e then (if i≠0∧c=49 then some ⟨2,s.extract a e,flt (c -48).toNat,a,e⟩ else none)
 else do
  let x ←Fx s a c
  some ⟨9,x,0,a,a+x.size⟩
def Be(s:ByteArray)(i:Nat)(_operand:Bool):Option Ud:=do
 let a ←Mw s (s.size+1) (min i s.size)
 match Nc s a with
 |none=>if i=0 then none else some ⟨0,bs [],0,a,a⟩
 | some c=>
  if c=10∨c=34∨c=47 then none
  else if Db c then do
   let e ←Fg s (s.size+1) a
   some ⟨Il s (s.extract a e) e,s.extract a e,0,a,e⟩
  else FS s i a c
end Go.Proofs.YtkfillfkbhbbjaaGreatDoor
