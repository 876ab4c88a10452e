/- The plain parser once more, made to be run by the kernel: the text as one number. Made in part by a program (mkfast.py). -/
import Derived.Test.YtkfillfkbhbbjaaGreatDoorLevelsE
set_option maxRecDepth 100000
set_option maxHeartbeats 4000000
set_option linter.unusedSimpArgs false
set_option linter.unusedVariables false
namespace Go.Proofs.YtkfillfkbhbbjaaGreatDoor
set_option linter.unusedVariables false

def takeX (nx : Nat → Bool → Option Tok) (sz : Nat) (pl : Nat → Nat × Nat) (st : PSt) (x : ByteArray) : Option (Bool × PSt) := do
 let t ← nx st.pos false
 if isT t x then do
  let o ← opnF x st.opn
  some (true, ⟨t.to, o, st.ng⟩)
 else some (false, st)

def wantX (nx : Nat → Bool → Option Tok) (sz : Nat) (pl : Nat → Nat × Nat) (st : PSt) (x : ByteArray) : Option PSt := match takeX nx sz pl st x with
 | some (true, st') => some st'
 | _ => none
def linesX (nx : Nat → Bool → Option Tok) (sz : Nat) (pl : Nat → Nat × Nat) (also : ByteArray) : Nat → PSt → Option PSt
 | 0, _ => none
 | f + 1, st => do
  let t ← nx st.pos false
  if t.kind = 1 ∨ (same also (bs []) = false ∧ t.kind = 9 ∧ same t.text also = true) then linesX nx sz pl also f ⟨t.to, st.opn, st.ng⟩ else some st

def oneX (nx : Nat → Bool → Option Tok) (sz : Nat) (pl : Nat → Nat × Nat) (st : PSt) (sg : ByteArray) : Option (Option (ByteArray × Nat × Nat) × PSt) := do
 let t ← nx st.pos false
 if t.kind == 9 && among sg t.text then some (some (t.text, pl t.fr), ⟨t.to, st.opn, st.ng⟩) else some (none, st)
def noneX (nx : Nat → Bool → Option Tok) (sz : Nat) (pl : Nat → Nat × Nat) (st : PSt) (sg : ByteArray) : Option Unit := do
 let x ← oneX nx sz pl st sg
 match x.1 with
 | none => some ()
 | some _ => none
def isX (nx : Nat → Bool → Option Tok) (sz : Nat) (pl : Nat → Nat × Nat) (st : PSt) (x : ByteArray) : Option Bool := do
 let t ← nx st.pos false
 some (isT t x)
def notX (nx : Nat → Bool → Option Tok) (sz : Nat) (pl : Nat → Nat × Nat) (st : PSt) (x : ByteArray) : Option Unit := do
 let b ← isX nx sz pl st x
 if b then none else some ()
def hereX (nx : Nat → Bool → Option Tok) (sz : Nat) (pl : Nat → Nat × Nat) (st : PSt) (op : Bool) : Option (Tok × Nat × Nat) := do
 let t ← nx st.pos op
 some (t, pl t.fr)
def nameX (nx : Nat → Bool → Option Tok) (sz : Nat) (pl : Nat → Nat × Nat) (st : PSt) : Option (Tok × PSt) := do
 let t ← nx st.pos false
 if t.kind = 5 then some (t, ⟨t.to, st.opn, st.ng⟩) else none
def linesAX (nx : Nat → Bool → Option Tok) (sz : Nat) (pl : Nat → Nat × Nat) (st : PSt) (also : ByteArray) : Option PSt := linesX nx sz pl also (sz + 2) st

def goesX (nx : Nat → Bool → Option Tok) (sz : Nat) (pl : Nat → Nat × Nat) (st : PSt) : Option Bool := do
 let t ← nx st.pos false
 if t.kind = 2 ∨ t.kind = 3 ∨ t.kind = 5 ∨ t.kind = 6 ∨ t.kind = 7 then some true
 else if t.kind = 9 then some (among dollarSigns t.text) else some false
def beginsX (nx : Nat → Bool → Option Tok) (sz : Nat) (pl : Nat → Nat × Nat) (st : PSt) : Option Bool := do
 let t ← nx st.pos true
 if t.kind = 2 ∨ t.kind = 3 ∨ t.kind = 5 ∨ t.kind = 6 ∨ t.kind = 7 then some true
 else if t.kind = 9 then some (among beginSigns t.text) else some false

def moreX (nx : Nat → Bool → Option Tok) (sz : Nat) (pl : Nat → Nat × Nat) (rec : Rec) : Nat → List Node → PSt → Option (List Node × PSt)
 | 0, _, _ => none
 | f + 1, l, st => do
  let (b, st) ← takeX nx sz pl st (bs [44])
  if b then do
   let st ← linesAX nx sz pl st (bs [])
   let (n, st) ← rec .expr st
   moreX nx sz pl rec f (l ++ [n]) st
  else some (l, st)
def listX (nx : Nat → Bool → Option Tok) (sz : Nat) (pl : Nat → Nat × Nat) (rec : Rec) (top : Bool) (st : PSt) : Option (List Node × PSt) := do
 let (n, st1) ← rec .expr ⟨st.pos, st.opn, st.ng && top⟩
 let (l, st2) ← moreX nx sz pl rec 50 [n] st1
 some (l, ⟨st2.pos, st2.opn, st.ng⟩)
def outsX (nx : Nat → Bool → Option Tok) (sz : Nat) (pl : Nat → Nat × Nat) (rec : Rec) (st : PSt) : Option (List Node × PSt) := do
 notX nx sz pl st (bs [40])
 let (l, st2) ← listX nx sz pl rec true ⟨st.pos, st.opn, true⟩
 some (l, ⟨st2.pos, st2.opn, st.ng⟩)
def concatX (nx : Nat → Bool → Option Tok) (sz : Nat) (pl : Nat → Nat × Nat) (rec : Rec) : Nat → Node → PSt → Option (Node × PSt)
 | 0, _, _ => none
 | f + 1, n, st => do
  let b ← goesX nx sz pl st
  if b then do
   let (m, st) ← rec .sum st
   concatX nx sz pl rec f (.mk 14 (bs []) 0 [n, m] n.re n.im) st
  else some (n, st)
def sumX (nx : Nat → Bool → Option Tok) (sz : Nat) (pl : Nat → Nat × Nat) (rec : Rec) : Nat → Node → PSt → Option (Node × PSt)
 | 0, _, _ => none
 | f + 1, n, st => do
  let (x, st) ← oneX nx sz pl st plusminus
  match x with
  | none => some (n, st)
  | some (x, re, im) => do
   let (m, st) ← rec .product st
   sumX nx sz pl rec f (.mk 15 x 0 [n, m] re im) st
def stmtsX (nx : Nat → Bool → Option Tok) (sz : Nat) (pl : Nat → Nat × Nat) (rec : Rec) : Nat → List Node → PSt → Option (List Node × PSt)
 | 0, _, _ => none
 | f + 1, l, st => do
  let b ← isX nx sz pl st (bs [125])
  if b then some (l, st) else do
   let (n, st) ← rec .stmt st
   let st ← linesAX nx sz pl st (bs [59])
   stmtsX nx sz pl rec f (l ++ [n]) st

def endX (nx : Nat → Bool → Option Tok) (sz : Nat) (pl : Nat → Nat × Nat) (st : PSt) : Option PSt := do
 let t ← nx st.pos false
 if t.kind = 0 then some st else do
  let b ← isX nx sz pl st (bs [125])
  if b then some st
  else if t.kind = 1 ∨ (t.kind = 9 ∧ same t.text (bs [59]) = true) then some ⟨t.to, st.opn, st.ng⟩ else none

def stepX (nx : Nat → Bool → Option Tok) (sz : Nat) (pl : Nat → Nat × Nat) (rec : Rec) : Rec
 | .expr, st => do
  let (n, st) ← rec .cond st
  if lval n then do
   let (x, st) ← oneX nx sz pl st assigns
   match x with
   | none => some (n, st)
   | some (x, re, im) => do
    let (m, st) ← rec .expr st
    some (.mk 7 x 0 [n, m] re im, st)
  else some (n, st)
 | .cond, st => do
  let (n, st) ← rec .or st
  noneX nx sz pl st (bs [63])
  some (n, st)
 | .or, st => do
  let (n, st) ← rec .and st
  noneX nx sz pl st (bs [124, 124])
  some (n, st)
 | .and, st => do
  let (n, st) ← rec .in st
  noneX nx sz pl st (bs [38, 38])
  some (n, st)
 | .in, st => do
  let (n, st) ← rec .match st
  notX nx sz pl st (bs [105, 110])
  some (n, st)
 | .match, st => do
  let (n, st) ← rec .compare st
  noneX nx sz pl st (bs [126, 32, 33, 126])
  some (n, st)
 | .compare, st => do
  let (n, st) ← rec .concat st
  noneX nx sz pl st (if st.ng then comparesNo else compares)
  some (n, st)
 | .concat, st => do
  let (n, st) ← rec .sum st
  concatX nx sz pl rec 50 n st
 | .sum, st => do
  let (n, st) ← rec .product st
  sumX nx sz pl rec 50 n st
 | .product, st => do
  let (n, st) ← rec .unary st
  noneX nx sz pl st stars
  some (n, st)
 | .unary, st => do
  noneX nx sz pl st (bs [33, 32, 45, 32, 43])
  rec .power st
 | .power, st => do
  let (n, st) ← rec .post st
  noneX nx sz pl st (bs [94])
  some (n, st)
 | .post, st => do
  let (n, st) ← rec .primary st
  if lval n then do
   let (x, st) ← oneX nx sz pl st incs
   match x with
   | none => some (n, st)
   | some (x, re, im) => some (.mk 18 x 0 [n] re im, st)
  else some (n, st)
 | .primary, st => do
  noneX nx sz pl st incs
  notX nx sz pl st (bs [40])
  rec .operand st
 | .operand, st => do
  let t ← nx st.pos true
  let (re, im) := pl t.fr
  if t.kind = 2 then some (.mk 1 (bs []) t.num [] re im, ⟨t.to, st.opn, st.ng⟩)
  else if t.kind = 3 then (if t.text.size ≤ 256 then some (.mk 2 t.text 0 [] re im, ⟨t.to, st.opn, st.ng⟩) else none)
  else if t.kind = 5 then do
   let (b, st) ← takeX nx sz pl ⟨t.to, st.opn, st.ng⟩ (bs [91])
   if b then do
    let (l, st) ← listX nx sz pl rec false st
    let st ← wantX nx sz pl st (bs [93])
    some (.mk 5 t.text 0 l re im, st)
   else some (.mk 4 t.text 0 [] re im, st)
  else if t.kind = 6 ∨ t.kind = 7 then rec (.call t re im) st
  else if t.kind = 9 ∧ same t.text (bs [36]) = true then do
   let (n, st) ← rec .dollar ⟨t.to, st.opn, st.ng⟩
   some (.mk 6 (bs []) 0 [n] re im, st)
  else none
 | .dollar, st => do
  noneX nx sz pl st incs
  notX nx sz pl st (bs [40])
  rec .operand st
 | .call t re im, st => do
  if same t.text (bs [115, 121, 115, 116, 101, 109]) || same t.text (bs [108, 101, 110, 103, 116, 104]) then none else do
   let st ← wantX nx sz pl ⟨t.to, st.opn, st.ng⟩ (bs [40])
   let b ← isX nx sz pl st (bs [41])
   let k : Int := if t.kind = 7 then 20 else 19
   if b then do
    let st ← wantX nx sz pl st (bs [41])
    some (.mk k t.text 0 [] re im, st)
   else do
    let (l, st) ← listX nx sz pl rec false st
    let st ← wantX nx sz pl st (bs [41])
    some (.mk k t.text 0 l re im, st)
 | .simple, st => do
  let (_, re, im) ← hereX nx sz pl st true
  notX nx sz pl st (bs [98, 114, 101, 97, 107])
  notX nx sz pl st (bs [99, 111, 110, 116, 105, 110, 117, 101])
  let (b, st) ← takeX nx sz pl st (bs [110, 101, 120, 116])
  if b then some (.mk 38 (bs []) 0 [] re im, st) else do
   notX nx sz pl st (bs [101, 120, 105, 116])
   notX nx sz pl st (bs [114, 101, 116, 117, 114, 110])
   notX nx sz pl st (bs [100, 101, 108, 101, 116, 101])
   let (b, st) ← takeX nx sz pl st (bs [112, 114, 105, 110, 116])
   if b then do
    let c ← beginsX nx sz pl st
    if c then do
     let (l, st) ← outsX nx sz pl rec st
     notX nx sz pl st (bs [62])
     some (.mk 42 (bs []) 0 l re im, st)
    else none
   else do
    notX nx sz pl st (bs [112, 114, 105, 110, 116, 102])
    let (n, st) ← rec .expr st
    some (.mk 44 (bs []) 0 [n] n.re n.im, st)
 | .stmt, st => do
  let _ ← hereX nx sz pl st true
  notX nx sz pl st (bs [123])
  notX nx sz pl st (bs [105, 102])
  notX nx sz pl st (bs [119, 104, 105, 108, 101])
  notX nx sz pl st (bs [100, 111])
  notX nx sz pl st (bs [102, 111, 114])
  let (n, st) ← rec .simple st
  let st ← endX nx sz pl st
  some (n, st)
 | .block, st => do
  let (_, re, im) ← hereX nx sz pl st false
  let st ← wantX nx sz pl st (bs [123])
  let st ← linesAX nx sz pl st (bs [59])
  let (l, st) ← stmtsX nx sz pl rec 50 [] st
  let st ← wantX nx sz pl st (bs [125])
  some (.mk 30 (bs []) 0 l re im, st)

def parNX (nx : Nat → Bool → Option Tok) (sz : Nat) (pl : Nat → Nat × Nat) : Nat → Rec
 | 0 => fun _ _ => none
 | n + 1 => stepX nx sz pl (parNX nx sz pl n)

def paramsX (nx : Nat → Bool → Option Tok) (sz : Nat) (pl : Nat → Nat × Nat) : Nat → List ByteArray → PSt → Option (List ByteArray × PSt)
 | 0, _, _ => none
 | f + 1, l, st => do
  let b ← isX nx sz pl st (bs [41])
  if b then some (l, st) else do
   let (t, st) ← nameX nx sz pl st
   if l.length = 8 then none else do
    let c ← isX nx sz pl st (bs [44])
    if c then do
     let (_, st) ← takeX nx sz pl st (bs [44])
     let st ← linesAX nx sz pl st (bs [])
     let t2 ← nx st.pos false
     if t2.kind = 5 then paramsX nx sz pl f (l ++ [t.text]) st else none
    else some (l ++ [t.text], st)
def functionX (nx : Nat → Bool → Option Tok) (sz : Nat) (pl : Nat → Nat × Nat) (rec : Rec) (st : PSt) : Option (FuncP × PSt) := do
 let (_, re, im) ← hereX nx sz pl st false
 let (_, st) ← takeX nx sz pl st (bs [102, 117, 110, 99, 116, 105, 111, 110])
 let t ← nx st.pos false
 if t.kind = 6 then do
  let st ← wantX nx sz pl ⟨t.to, st.opn, st.ng⟩ (bs [40])
  let (l, st) ← paramsX nx sz pl 20 [] st
  let st ← wantX nx sz pl st (bs [41])
  let st ← linesAX nx sz pl st (bs [])
  let (n, st) ← rec .block st
  some (⟨t.text, l, n, re, im⟩, st)
 else none
def ruleX (nx : Nat → Bool → Option Tok) (sz : Nat) (pl : Nat → Nat × Nat) (rec : Rec) (st : PSt) : Option (RuleP × PSt) := do
 let (_, re, im) ← hereX nx sz pl st true
 let (b, st) ← takeX nx sz pl st (bs [66, 69, 71, 73, 78])
 if b then do
  let (n, st) ← rec .block st
  some (⟨1, 0, [], n, re, im⟩, st)
 else do
  notX nx sz pl st (bs [69, 78, 68])
  notX nx sz pl st (bs [71, 65, 80])
  notX nx sz pl st (bs [69, 86, 69, 82, 89])
  let c ← isX nx sz pl st (bs [123])
  if c then do
   let (n, st) ← rec .block st
   some (⟨5, 0, [], n, re, im⟩, st)
  else none
def itemsX (nx : Nat → Bool → Option Tok) (sz : Nat) (pl : Nat → Nat × Nat) (rec : Rec) : Nat → ProgP → PSt → Option ProgP
 | 0, _, _ => none
 | f + 1, g, st => do
  let st ← linesAX nx sz pl st (bs [59])
  let t ← nx st.pos true
  if t.kind = 0 then some g else do
   let b ← isX nx sz pl st (bs [102, 117, 110, 99, 116, 105, 111, 110])
   if b then do
    let (x, st) ← functionX nx sz pl rec st
    itemsX nx sz pl rec f ⟨g.rules, g.funcs ++ [x]⟩ st
   else do
    let (x, st) ← ruleX nx sz pl rec st
    itemsX nx sz pl rec f ⟨g.rules ++ [x], g.funcs⟩ st
def parseX (nx : Nat → Bool → Option Tok) (sz : Nat) (pl : Nat → Nat × Nat) : Option ProgP := if sz ≤ 4096 then itemsX nx sz pl (parNX nx sz pl 100) 50 ⟨[], []⟩ ⟨0, 0, false⟩ else none

def memS (t : ByteArray) : List ByteArray → Bool
 | [] => false
 | w :: l => same w t || memS t l
def wordsL : List ByteArray := [bs [66, 69, 71, 73, 78], bs [69, 78, 68], bs [69, 86, 69, 82, 89], bs [71, 65, 80], bs [102, 117, 110, 99, 116, 105, 111, 110], bs [105, 102], bs [101, 108, 115, 101], bs [119, 104, 105, 108, 101], bs [102, 111, 114], bs [100, 111], bs [98, 114, 101, 97, 107], bs [99, 111, 110, 116, 105, 110, 117, 101], bs [110, 101, 120, 116], bs [101, 120, 105, 116], bs [114, 101, 116, 117, 114, 110], bs [100, 101, 108, 101, 116, 101], bs [105, 110], bs [103, 101, 116, 108, 105, 110, 101], bs [112, 114, 105, 110, 116], bs [112, 114, 105, 110, 116, 102]]
theorem among_words (t : ByteArray) : among words t = memS t wordsL := by kernel_rfl
def builtsL : List ByteArray := [bs [108, 101, 110, 103, 116, 104], bs [115, 117, 98, 115, 116, 114], bs [105, 110, 100, 101, 120], bs [115, 112, 108, 105, 116], bs [115, 117, 98], bs [103, 115, 117, 98], bs [109, 97, 116, 99, 104], bs [115, 112, 114, 105, 110, 116, 102], bs [116, 111, 108, 111, 119, 101, 114], bs [116, 111, 117, 112, 112, 101, 114], bs [105, 110, 116], bs [115, 113, 114, 116], bs [101, 120, 112], bs [108, 111, 103], bs [115, 105, 110], bs [99, 111, 115], bs [97, 116, 97, 110, 50], bs [114, 97, 110, 100], bs [115, 114, 97, 110, 100], bs [101, 120, 112, 105, 114, 101]]
theorem among_builts (t : ByteArray) : among builts t = memS t builtsL := by kernel_rfl
def signs2L : List ByteArray := [bs [38, 38], bs [124, 124], bs [43, 43], bs [45, 45], bs [43, 61], bs [45, 61], bs [42, 61], bs [47, 61], bs [37, 61], bs [94, 61], bs [61, 61], bs [60, 61], bs [62, 61], bs [33, 61], bs [33, 126], bs [62, 62]]
theorem among_signs2 (t : ByteArray) : among signs2 t = memS t signs2L := by kernel_rfl
def signs1L : List ByteArray := [bs [123], bs [125], bs [40], bs [41], bs [91], bs [93], bs [59], bs [44], bs [43], bs [45], bs [42], bs [47], bs [37], bs [94], bs [33], bs [62], bs [60], bs [124], bs [63], bs [58], bs [126], bs [36], bs [61]]
theorem among_signs1 (t : ByteArray) : among signs1 t = memS t signs1L := by kernel_rfl
def codeL : List UInt8 → Nat
 | [] => 0
 | c :: l => c.toNat + 256 * codeL l
def byteN (N i : Nat) : Nat := (N >>> (8 * i)) % 256
def nthN (N len i : Nat) : Option Int := if i < len then some ((byteN N i : Nat) : Int) else none
def slL (N : Nat) : Nat → Nat → List UInt8
 | 0, _ => []
 | k + 1, a => (byteN N a).toUInt8 :: slL N k (a + 1)
def slN (N len a e : Nat) : ByteArray := ⟨(slL N (min e len - a) a).toArray⟩
def skipN (N len : Nat) : Nat → Nat → Option Nat
 | 0, _ => none
 | f + 1, i => match nthN N len i with
  | none => some i
  | some z => if z = 32 ∨ z = 9 ∨ z = 13 then skipN N len f (i + 1) else if z = 92 ∨ z = 35 then none else some i
def wordEndN (N len : Nat) : Nat → Nat → Option Nat
 | 0, _ => none
 | f + 1, i => match nthN N len i with
  | none => some i
  | some z => if letterF z || digitF z then wordEndN N len f (i + 1) else some i
def closesN (N len : Nat) (q : Int) : Nat → Nat → Option Nat
 | 0, _ => none
 | f + 1, i => match nthN N len i with
  | none => none
  | some z => if z = 10 then none else if z = q then some i else if z = 92 then none else closesN N len q f (i + 1)
def numeralN (N len : Nat) (i : Nat) : Option Nat := match nthN N len i with
 | none => some i
 | some z => if digitF z then (match nthN N len (i + 1) with
   | none => some (i + 1)
   | some y => if digitF y || y == 46 || y == 101 || y == 69 then none else some (i + 1))
  else if z = 46 then none else some i
def kindN (N len : Nat) (t : ByteArray) (e : Nat) : Int :=
 if memS t wordsL then 8 else if memS t builtsL then 7 else if nthN N len e == some 40 then 6 else 5
def signN (N len i : Nat) (c : Int) : Option ByteArray :=
 if decide (i + 1 < len) && memS (slN N len i (i + 2)) signs2L then some (slN N len i (i + 2))
 else if c != 32 && memS (slN N len i (i + 1)) signs1L then some (slN N len i (i + 1)) else none
def textN (N len : Nat) (a : Nat) : Option Tok := do
 let e ← closesN N len 34 (len + 1) (a + 1)
 if plainF (slN N len (a + 1) e) then some ⟨3, slN N len (a + 1) e, 0, a, e + 1⟩ else none
def otherN (N len : Nat) (a : Nat) (c : Int) : Option Tok := do
 let e ← numeralN N len a
 if a < e then (if c = 49 ∨ c = 50 then some ⟨2, slN N len a e, flt (c - 48).toNat, a, e⟩ else none)
 else do
  let x ← signN N len a c
  some ⟨9, x, 0, a, a + x.size⟩
def nextN (N len : Nat) (i : Nat) (operand : Bool) : Option Tok := do
 let a ← skipN N len (len + 1) (min i len)
 match nthN N len a with
 | none => some ⟨0, bs [], 0, a, a⟩
 | some c =>
  if c = 10 then some ⟨1, bs [], 0, a, a + 1⟩
  else if letterF c then do
   let e ← wordEndN N len (len + 1) a
   some ⟨kindN N len (slN N len a e) e, slN N len a e, 0, a, e⟩
  else if c = 34 then textN N len a
  else if c = 47 && operand then none
  else otherN N len a c
def fz {α : Type} (n : Nat) (f : Nat → α) : α := Nat.rec (f 0) (fun k _ => f (Nat.succ k)) n
theorem fz_eq {α : Type} (n : Nat) (f : Nat → α) : fz n f = f n := by cases n <;> rfl
def nextZ (N len : Nat) (i : Nat) (b : Bool) : Option Tok := fz i fun i => nextN N len i b

theorem codeL_byte : ∀ (l : List UInt8) (i : Nat) (h : i < l.length), byteN (codeL l) i = l[i].toNat
 | [], i, h => by simp at h
 | c :: l, 0, _ => by
  have := c.toNat_lt
  simp only [byteN, codeL, Nat.mul_zero, Nat.shiftRight_zero, List.getElem_cons_zero]
  omega
 | c :: l, i + 1, h => by
  have ih := codeL_byte l i (by simpa using h)
  have hc := c.toNat_lt
  simp only [List.getElem_cons_succ]
  rw [← ih]
  unfold byteN
  rw [show 8 * (i + 1) = 8 + 8 * i from by omega, Nat.shiftRight_add]
  congr 2
  rw [codeL, Nat.shiftRight_eq_div_pow]
  omega
theorem nthN_eq (s : ByteArray) (i : Nat) : nthN (codeL s.data.toList) s.size i = nthZ s i := by
 unfold nthN nthZ
 by_cases h : i < s.size
 ·rw [if_pos h, dif_pos h, codeL_byte _ _ (by simpa using h)]
  rfl
 ·rw [if_neg h, dif_neg h]
theorem slL_eq (l : List UInt8) : ∀ (k a : Nat), a + k ≤ l.length → slL (codeL l) k a = (l.drop a).take k
 | 0, a, _ => by simp [slL]
 | k + 1, a, h => by
  rw [slL, slL_eq l k (a + 1) (by omega), List.drop_eq_getElem_cons (i := a) (by omega), List.take_succ_cons, codeL_byte l a (by omega)]
  simp
theorem slN_eq (s : ByteArray) (a e : Nat) : slN (codeL s.data.toList) s.size a e = s.extract a e := by
 have h1 : (s.extract a e).data.toList = (s.data.toList.drop a).take (e - a) := by
  simp [List.extract_eq_take_drop]
 have h2 : slL (codeL s.data.toList) (min e s.size - a) a = (s.data.toList.drop a).take (e - a) := by
  have hs : s.data.toList.length = s.size := by simp
  by_cases ha : a ≤ min e s.size
  ·rw [slL_eq _ _ _ (by rw [hs]; omega)]
   by_cases he : e ≤ s.size
   ·rw [Nat.min_eq_left he]
   ·rw [Nat.min_eq_right (by omega), List.take_of_length_le (by rw [List.length_drop, hs]; omega), List.take_of_length_le (by rw [List.length_drop, hs]; omega)]
  ·rw [show min e s.size - a = 0 from by omega, slL]
   by_cases he : e ≤ a
   ·rw [show e - a = 0 from by omega, List.take_zero]
   ·rw [List.drop_eq_nil_of_le (by rw [hs]; omega), List.take_nil]
 unfold slN
 rw [h2, ← h1]
theorem skipN_eq (s : ByteArray) : ∀ f i, skipN (codeL s.data.toList) s.size f i = skipF s f i
 | 0, _ => rfl
 | f + 1, i => by rw [skipN, skipF, nthN_eq]; simp only [skipN_eq s f]; rfl
theorem wordEndN_eq (s : ByteArray) : ∀ f i, wordEndN (codeL s.data.toList) s.size f i = wordEndF s f i
 | 0, _ => rfl
 | f + 1, i => by rw [wordEndN, wordEndF, nthN_eq]; simp only [wordEndN_eq s f]; rfl
theorem closesN_eq (s : ByteArray) (q : Int) : ∀ f i, closesN (codeL s.data.toList) s.size q f i = closesF s q f i
 | 0, _ => rfl
 | f + 1, i => by rw [closesN, closesF, nthN_eq]; simp only [closesN_eq s q f]; rfl
theorem numeralN_eq (s : ByteArray) (i : Nat) : numeralN (codeL s.data.toList) s.size i = numeralF s i := by unfold numeralN numeralF; simp only [nthN_eq]; rfl
theorem kindN_eq (s t : ByteArray) (e : Nat) : kindN (codeL s.data.toList) s.size t e = kindF s t e := by unfold kindN kindF isWord isBuilt; rw [among_words, among_builts, nthN_eq]
theorem signN_eq (s : ByteArray) (i : Nat) (c : Int) : signN (codeL s.data.toList) s.size i c = signF s i c := by unfold signN signF; simp only [slN_eq, among_signs2, among_signs1]
theorem textN_eq (s : ByteArray) (a : Nat) : textN (codeL s.data.toList) s.size a = textF s a := by unfold textN textF; simp only [slN_eq, closesN_eq]
theorem otherN_eq (s : ByteArray) (a : Nat) (c : Int) : otherN (codeL s.data.toList) s.size a c = otherF s a c := by unfold otherN otherF; simp only [slN_eq, numeralN_eq, signN_eq]
theorem nextN_eq (s : ByteArray) (i : Nat) (b : Bool) : nextN (codeL s.data.toList) s.size i b = nextF s i b := by
 unfold nextN nextF; simp only [skipN_eq, nthN_eq, wordEndN_eq, kindN_eq, slN_eq, textN_eq, otherN_eq]
 rfl
theorem nextZ_eq (s : ByteArray) : nextZ (codeL s.data.toList) s.size = nextF s := by funext i b; exact (fz_eq i _).trans (nextN_eq s i b)
theorem takeX_eq (s : ByteArray) : takeX (nextF s) s.size (placeOf s) = takeF s := rfl
theorem wantX_eq (s : ByteArray) : wantX (nextF s) s.size (placeOf s) = wantF s := by first | rfl | (funext a b; simp only [wantX, wantF, takeX_eq]; done) | (funext a b; simp only [wantX, wantF, takeX_eq]; rfl)
theorem linesX_eq (s also : ByteArray) : linesX (nextF s) s.size (placeOf s) also = linesF s also := by
 funext f
 induction f with
 | zero => rfl
 | succ f ih => funext a; simp only [linesX, linesF, takeX_eq, wantX_eq, ih] <;> rfl
theorem oneX_eq (s : ByteArray) : oneX (nextF s) s.size (placeOf s) = oneF s := by first | rfl | (funext a b; simp only [oneX, oneF, takeX_eq, wantX_eq, linesX_eq]; done) | (funext a b; simp only [oneX, oneF, takeX_eq, wantX_eq, linesX_eq]; rfl)
theorem noneX_eq (s : ByteArray) : noneX (nextF s) s.size (placeOf s) = noneF s := by first | rfl | (funext a b; simp only [noneX, noneF, takeX_eq, wantX_eq, linesX_eq, oneX_eq]; done) | (funext a b; simp only [noneX, noneF, takeX_eq, wantX_eq, linesX_eq, oneX_eq]; rfl)
theorem isX_eq (s : ByteArray) : isX (nextF s) s.size (placeOf s) = isF s := by first | rfl | (funext a b; simp only [isX, isF, takeX_eq, wantX_eq, linesX_eq, oneX_eq, noneX_eq]; done) | (funext a b; simp only [isX, isF, takeX_eq, wantX_eq, linesX_eq, oneX_eq, noneX_eq]; rfl)
theorem notX_eq (s : ByteArray) : notX (nextF s) s.size (placeOf s) = notF s := by first | rfl | (funext a b; simp only [notX, notF, takeX_eq, wantX_eq, linesX_eq, oneX_eq, noneX_eq, isX_eq]; done) | (funext a b; simp only [notX, notF, takeX_eq, wantX_eq, linesX_eq, oneX_eq, noneX_eq, isX_eq]; rfl)
theorem hereX_eq (s : ByteArray) : hereX (nextF s) s.size (placeOf s) = hereF s := by first | rfl | (funext a b; simp only [hereX, hereF, takeX_eq, wantX_eq, linesX_eq, oneX_eq, noneX_eq, isX_eq, notX_eq]; done) | (funext a b; simp only [hereX, hereF, takeX_eq, wantX_eq, linesX_eq, oneX_eq, noneX_eq, isX_eq, notX_eq]; rfl)
theorem nameX_eq (s : ByteArray) : nameX (nextF s) s.size (placeOf s) = nameF s := by first | rfl | (funext a b; simp only [nameX, nameF, takeX_eq, wantX_eq, linesX_eq, oneX_eq, noneX_eq, isX_eq, notX_eq, hereX_eq]; done) | (funext a b; simp only [nameX, nameF, takeX_eq, wantX_eq, linesX_eq, oneX_eq, noneX_eq, isX_eq, notX_eq, hereX_eq]; rfl)
theorem linesAX_eq (s : ByteArray) : linesAX (nextF s) s.size (placeOf s) = linesA s := by first | rfl | (funext a b; simp only [linesAX, linesA, takeX_eq, wantX_eq, linesX_eq, oneX_eq, noneX_eq, isX_eq, notX_eq, hereX_eq, nameX_eq]; done) | (funext a b; simp only [linesAX, linesA, takeX_eq, wantX_eq, linesX_eq, oneX_eq, noneX_eq, isX_eq, notX_eq, hereX_eq, nameX_eq]; rfl)
theorem goesX_eq (s : ByteArray) : goesX (nextF s) s.size (placeOf s) = goesF s := by first | rfl | (funext a b; simp only [goesX, goesF, takeX_eq, wantX_eq, linesX_eq, oneX_eq, noneX_eq, isX_eq, notX_eq, hereX_eq, nameX_eq, linesAX_eq]; done) | (funext a b; simp only [goesX, goesF, takeX_eq, wantX_eq, linesX_eq, oneX_eq, noneX_eq, isX_eq, notX_eq, hereX_eq, nameX_eq, linesAX_eq]; rfl)
theorem beginsX_eq (s : ByteArray) : beginsX (nextF s) s.size (placeOf s) = beginsF s := by first | rfl | (funext a b; simp only [beginsX, beginsF, takeX_eq, wantX_eq, linesX_eq, oneX_eq, noneX_eq, isX_eq, notX_eq, hereX_eq, nameX_eq, linesAX_eq, goesX_eq]; done) | (funext a b; simp only [beginsX, beginsF, takeX_eq, wantX_eq, linesX_eq, oneX_eq, noneX_eq, isX_eq, notX_eq, hereX_eq, nameX_eq, linesAX_eq, goesX_eq]; rfl)
theorem moreX_eq (s : ByteArray) (rec : Rec) : moreX (nextF s) s.size (placeOf s) rec = moreF s rec := by
 funext f
 induction f with
 | zero => rfl
 | succ f ih => funext a b; simp only [moreX, moreF, takeX_eq, wantX_eq, linesX_eq, oneX_eq, noneX_eq, isX_eq, notX_eq, hereX_eq, nameX_eq, linesAX_eq, goesX_eq, beginsX_eq, ih] <;> rfl
theorem listX_eq (s : ByteArray) (rec : Rec) : listX (nextF s) s.size (placeOf s) rec = listF s rec := by first | (funext a; simp only [listX, listF, takeX_eq, wantX_eq, linesX_eq, oneX_eq, noneX_eq, isX_eq, notX_eq, hereX_eq, nameX_eq, linesAX_eq, goesX_eq, beginsX_eq, moreX_eq]; done) | (funext a; simp only [listX, listF, takeX_eq, wantX_eq, linesX_eq, oneX_eq, noneX_eq, isX_eq, notX_eq, hereX_eq, nameX_eq, linesAX_eq, goesX_eq, beginsX_eq, moreX_eq]; rfl) | (funext a b; simp only [listX, listF, takeX_eq, wantX_eq, linesX_eq, oneX_eq, noneX_eq, isX_eq, notX_eq, hereX_eq, nameX_eq, linesAX_eq, goesX_eq, beginsX_eq, moreX_eq]; done) | (funext a b; simp only [listX, listF, takeX_eq, wantX_eq, linesX_eq, oneX_eq, noneX_eq, isX_eq, notX_eq, hereX_eq, nameX_eq, linesAX_eq, goesX_eq, beginsX_eq, moreX_eq]; rfl) | rfl
theorem outsX_eq (s : ByteArray) (rec : Rec) : outsX (nextF s) s.size (placeOf s) rec = outsF s rec := by first | (funext a; simp only [outsX, outsF, takeX_eq, wantX_eq, linesX_eq, oneX_eq, noneX_eq, isX_eq, notX_eq, hereX_eq, nameX_eq, linesAX_eq, goesX_eq, beginsX_eq, moreX_eq, listX_eq]; done) | (funext a; simp only [outsX, outsF, takeX_eq, wantX_eq, linesX_eq, oneX_eq, noneX_eq, isX_eq, notX_eq, hereX_eq, nameX_eq, linesAX_eq, goesX_eq, beginsX_eq, moreX_eq, listX_eq]; rfl) | (funext a b; simp only [outsX, outsF, takeX_eq, wantX_eq, linesX_eq, oneX_eq, noneX_eq, isX_eq, notX_eq, hereX_eq, nameX_eq, linesAX_eq, goesX_eq, beginsX_eq, moreX_eq, listX_eq]; done) | (funext a b; simp only [outsX, outsF, takeX_eq, wantX_eq, linesX_eq, oneX_eq, noneX_eq, isX_eq, notX_eq, hereX_eq, nameX_eq, linesAX_eq, goesX_eq, beginsX_eq, moreX_eq, listX_eq]; rfl) | rfl
theorem concatX_eq (s : ByteArray) (rec : Rec) : concatX (nextF s) s.size (placeOf s) rec = concatF s rec := by
 funext f
 induction f with
 | zero => rfl
 | succ f ih => funext a b; simp only [concatX, concatF, takeX_eq, wantX_eq, linesX_eq, oneX_eq, noneX_eq, isX_eq, notX_eq, hereX_eq, nameX_eq, linesAX_eq, goesX_eq, beginsX_eq, moreX_eq, listX_eq, outsX_eq, ih] <;> rfl
theorem sumX_eq (s : ByteArray) (rec : Rec) : sumX (nextF s) s.size (placeOf s) rec = sumF s rec := by
 funext f
 induction f with
 | zero => rfl
 | succ f ih => funext a b; simp only [sumX, sumF, takeX_eq, wantX_eq, linesX_eq, oneX_eq, noneX_eq, isX_eq, notX_eq, hereX_eq, nameX_eq, linesAX_eq, goesX_eq, beginsX_eq, moreX_eq, listX_eq, outsX_eq, concatX_eq, ih] <;> rfl
theorem stmtsX_eq (s : ByteArray) (rec : Rec) : stmtsX (nextF s) s.size (placeOf s) rec = stmtsF s rec := by
 funext f
 induction f with
 | zero => rfl
 | succ f ih => funext a b; simp only [stmtsX, stmtsF, takeX_eq, wantX_eq, linesX_eq, oneX_eq, noneX_eq, isX_eq, notX_eq, hereX_eq, nameX_eq, linesAX_eq, goesX_eq, beginsX_eq, moreX_eq, listX_eq, outsX_eq, concatX_eq, sumX_eq, ih] <;> rfl
theorem endX_eq (s : ByteArray) : endX (nextF s) s.size (placeOf s) = endF s := by first | rfl | (funext a b; simp only [endX, endF, takeX_eq, wantX_eq, linesX_eq, oneX_eq, noneX_eq, isX_eq, notX_eq, hereX_eq, nameX_eq, linesAX_eq, goesX_eq, beginsX_eq, moreX_eq, listX_eq, outsX_eq, concatX_eq, sumX_eq, stmtsX_eq]; done) | (funext a b; simp only [endX, endF, takeX_eq, wantX_eq, linesX_eq, oneX_eq, noneX_eq, isX_eq, notX_eq, hereX_eq, nameX_eq, linesAX_eq, goesX_eq, beginsX_eq, moreX_eq, listX_eq, outsX_eq, concatX_eq, sumX_eq, stmtsX_eq]; rfl)
theorem stepX_eq (s : ByteArray) (rec : Rec) : stepX (nextF s) s.size (placeOf s) rec = step s rec := by
 funext w st
 cases w <;> simp only [stepX, step, takeX_eq, wantX_eq, linesX_eq, oneX_eq, noneX_eq, isX_eq, notX_eq, hereX_eq, nameX_eq, linesAX_eq, goesX_eq, beginsX_eq, moreX_eq, listX_eq, outsX_eq, concatX_eq, sumX_eq, stmtsX_eq, endX_eq] <;> rfl
theorem parNX_eq (s : ByteArray) : parNX (nextF s) s.size (placeOf s) = parN s := by
 funext f
 induction f with
 | zero => rfl
 | succ f ih => rw [parNX, parN, ih, stepX_eq]
theorem paramsX_eq (s : ByteArray) : paramsX (nextF s) s.size (placeOf s) = paramsF s := by
 funext f
 induction f with
 | zero => rfl
 | succ f ih => funext a b; simp only [paramsX, paramsF, takeX_eq, wantX_eq, linesX_eq, oneX_eq, noneX_eq, isX_eq, notX_eq, hereX_eq, nameX_eq, linesAX_eq, goesX_eq, beginsX_eq, moreX_eq, listX_eq, outsX_eq, concatX_eq, sumX_eq, stmtsX_eq, endX_eq, stepX_eq, parNX_eq, ih] <;> rfl
theorem functionX_eq (s : ByteArray) (rec : Rec) : functionX (nextF s) s.size (placeOf s) rec = functionF s rec := by first | (funext a; simp only [functionX, functionF, takeX_eq, wantX_eq, linesX_eq, oneX_eq, noneX_eq, isX_eq, notX_eq, hereX_eq, nameX_eq, linesAX_eq, goesX_eq, beginsX_eq, moreX_eq, listX_eq, outsX_eq, concatX_eq, sumX_eq, stmtsX_eq, endX_eq, stepX_eq, parNX_eq, paramsX_eq]; done) | (funext a; simp only [functionX, functionF, takeX_eq, wantX_eq, linesX_eq, oneX_eq, noneX_eq, isX_eq, notX_eq, hereX_eq, nameX_eq, linesAX_eq, goesX_eq, beginsX_eq, moreX_eq, listX_eq, outsX_eq, concatX_eq, sumX_eq, stmtsX_eq, endX_eq, stepX_eq, parNX_eq, paramsX_eq]; rfl) | (funext a b; simp only [functionX, functionF, takeX_eq, wantX_eq, linesX_eq, oneX_eq, noneX_eq, isX_eq, notX_eq, hereX_eq, nameX_eq, linesAX_eq, goesX_eq, beginsX_eq, moreX_eq, listX_eq, outsX_eq, concatX_eq, sumX_eq, stmtsX_eq, endX_eq, stepX_eq, parNX_eq, paramsX_eq]; done) | (funext a b; simp only [functionX, functionF, takeX_eq, wantX_eq, linesX_eq, oneX_eq, noneX_eq, isX_eq, notX_eq, hereX_eq, nameX_eq, linesAX_eq, goesX_eq, beginsX_eq, moreX_eq, listX_eq, outsX_eq, concatX_eq, sumX_eq, stmtsX_eq, endX_eq, stepX_eq, parNX_eq, paramsX_eq]; rfl) | rfl
theorem ruleX_eq (s : ByteArray) (rec : Rec) : ruleX (nextF s) s.size (placeOf s) rec = ruleF s rec := by first | (funext a; simp only [ruleX, ruleF, takeX_eq, wantX_eq, linesX_eq, oneX_eq, noneX_eq, isX_eq, notX_eq, hereX_eq, nameX_eq, linesAX_eq, goesX_eq, beginsX_eq, moreX_eq, listX_eq, outsX_eq, concatX_eq, sumX_eq, stmtsX_eq, endX_eq, stepX_eq, parNX_eq, paramsX_eq, functionX_eq]; done) | (funext a; simp only [ruleX, ruleF, takeX_eq, wantX_eq, linesX_eq, oneX_eq, noneX_eq, isX_eq, notX_eq, hereX_eq, nameX_eq, linesAX_eq, goesX_eq, beginsX_eq, moreX_eq, listX_eq, outsX_eq, concatX_eq, sumX_eq, stmtsX_eq, endX_eq, stepX_eq, parNX_eq, paramsX_eq, functionX_eq]; rfl) | (funext a b; simp only [ruleX, ruleF, takeX_eq, wantX_eq, linesX_eq, oneX_eq, noneX_eq, isX_eq, notX_eq, hereX_eq, nameX_eq, linesAX_eq, goesX_eq, beginsX_eq, moreX_eq, listX_eq, outsX_eq, concatX_eq, sumX_eq, stmtsX_eq, endX_eq, stepX_eq, parNX_eq, paramsX_eq, functionX_eq]; done) | (funext a b; simp only [ruleX, ruleF, takeX_eq, wantX_eq, linesX_eq, oneX_eq, noneX_eq, isX_eq, notX_eq, hereX_eq, nameX_eq, linesAX_eq, goesX_eq, beginsX_eq, moreX_eq, listX_eq, outsX_eq, concatX_eq, sumX_eq, stmtsX_eq, endX_eq, stepX_eq, parNX_eq, paramsX_eq, functionX_eq]; rfl) | rfl
theorem itemsX_eq (s : ByteArray) (rec : Rec) : itemsX (nextF s) s.size (placeOf s) rec = itemsF s rec := by
 funext f
 induction f with
 | zero => rfl
 | succ f ih => funext a b; simp only [itemsX, itemsF, takeX_eq, wantX_eq, linesX_eq, oneX_eq, noneX_eq, isX_eq, notX_eq, hereX_eq, nameX_eq, linesAX_eq, goesX_eq, beginsX_eq, moreX_eq, listX_eq, outsX_eq, concatX_eq, sumX_eq, stmtsX_eq, endX_eq, stepX_eq, parNX_eq, paramsX_eq, functionX_eq, ruleX_eq, ih] <;> rfl
theorem parseX_eq (s : ByteArray) : parseX (nextF s) s.size (placeOf s) = parseF s := by simp only [parseX, parseF, itemsX_eq, parNX_eq]
def evalF (s : ByteArray) : Option Told := fz (codeL s.data.toList) fun N => fz s.size fun len => (parseX (nextZ N len) len (placeOf s)).bind (nCheck 60)
theorem evalF_eq (s : ByteArray) : evalF s = (parseF s).bind (nCheck 60) := by
 unfold evalF; rw [fz_eq, fz_eq, nextZ_eq, parseX_eq]
end Go.Proofs.YtkfillfkbhbbjaaGreatDoor
