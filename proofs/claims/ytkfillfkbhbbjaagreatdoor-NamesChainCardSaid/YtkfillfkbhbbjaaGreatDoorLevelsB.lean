/- Further levels of expressions, walked. Made by a program (mkM.py). -/
import Derived.Test.YtkfillfkbhbbjaaGreatDoorParD
set_option maxRecDepth 100000
set_option maxHeartbeats 4000000
set_option linter.unusedSimpArgs false
set_option linter.unusedVariables false
namespace Go.Proofs.YtkfillfkbhbbjaaGreatDoor

inductive Node where
 | mk (kind : Int) (name : ByteArray) (num : Nat) (kids : List Node) (re im : Nat)
def Node.kind : Node → Int
 | .mk k _ _ _ _ _ => k
def Node.re : Node → Nat
 | .mk _ _ _ _ re _ => re
def Node.im : Node → Nat
 | .mk _ _ _ _ _ im => im
def lval (n : Node) : Bool := n.kind == 4 || n.kind == 5 || n.kind == 6

/-- The sign that comes, among these. -/
def oneF (s : ByteArray) (st : PSt) (sg : ByteArray) : Option (Option (ByteArray × Nat × Nat) × PSt) := do
 let t ← nextF s st.pos false
 if t.kind == 9 && among sg t.text then some (some (t.text, placeOf s t.fr), ⟨t.to, st.opn, st.ng⟩) else some (none, st)
/-- None of these signs comes. -/
def noneF (s : ByteArray) (st : PSt) (sg : ByteArray) : Option Unit := do
 let x ← oneF s st sg
 match x.1 with
 | none => some ()
 | some _ => none
def isF (s : ByteArray) (st : PSt) (x : ByteArray) : Option Bool := do
 let t ← nextF s st.pos false
 some (isT t x)
/-- None of these is taken. -/
def notF (s : ByteArray) (st : PSt) (x : ByteArray) : Option Unit := do
 let b ← isF s st x
 if b then none else some ()
def hereF (s : ByteArray) (st : PSt) (op : Bool) : Option (Tok × Nat × Nat) := do
 let t ← nextF s st.pos op
 some (t, placeOf s t.fr)
def nameF (s : ByteArray) (st : PSt) : Option (Tok × PSt) := do
 let t ← nextF s st.pos false
 if t.kind = 5 then some (t, ⟨t.to, st.opn, st.ng⟩) else none
def linesA (s : ByteArray) (st : PSt) (also : ByteArray) : Option PSt := linesF s also (s.size + 2) st

def dollarSigns : ByteArray := bs [36, 32, 40, 32, 43, 43, 32, 45, 45]
/-- Does an operand begin there that is joined to the one ahead? -/
def goesF (s : ByteArray) (st : PSt) : Option Bool := do
 let t ← nextF s st.pos false
 if t.kind = 2 ∨ t.kind = 3 ∨ t.kind = 5 ∨ t.kind = 6 ∨ t.kind = 7 then some true
 else if t.kind = 9 then some (among dollarSigns t.text) else some false
def beginSigns : ByteArray := bs [36, 32, 40, 32, 43, 43, 32, 45, 45, 32, 43, 32, 45, 32, 33]
def beginsF (s : ByteArray) (st : PSt) : Option Bool := do
 let t ← nextF s st.pos true
 if t.kind = 2 ∨ t.kind = 3 ∨ t.kind = 5 ∨ t.kind = 6 ∨ t.kind = 7 then some true
 else if t.kind = 9 then some (among beginSigns t.text) else some false

/-- Which function of the parser that hands back a node. -/
inductive Wh where
 | expr | cond | or | and | in | match | compare | concat | sum | product | unary | power | post | primary | operand | dollar
 | call (t : Tok) (re im : Nat)
 | simple | stmt | block

abbrev Rec := Wh → PSt → Option (Node × PSt)
def plusminus : ByteArray := bs [43, 32, 45]
def stars : ByteArray := bs [42, 32, 47, 32, 37]
def incs : ByteArray := bs [43, 43, 32, 45, 45]
def assigns : ByteArray := bs [61, 32, 43, 61, 32, 45, 61, 32, 42, 61, 32, 47, 61, 32, 37, 61, 32, 94, 61]
def compares : ByteArray := bs [60, 32, 60, 61, 32, 61, 61, 32, 33, 61, 32, 62, 61, 32, 62]
def comparesNo : ByteArray := bs [60, 32, 60, 61, 32, 61, 61, 32, 33, 61, 32, 62, 61]

/-- More of a list, behind a comma each. -/
def moreF (s : ByteArray) (rec : Rec) : Nat → List Node → PSt → Option (List Node × PSt)
 | 0, _, _ => none
 | f + 1, l, st => do
  let (b, st) ← takeF s st (bs [44])
  if b then do
   let st ← linesA s st (bs [])
   let (n, st) ← rec .expr st
   moreF s rec f (l ++ [n]) st
  else some (l, st)
def listF (s : ByteArray) (rec : Rec) (top : Bool) (st : PSt) : Option (List Node × PSt) := do
 let (n, st1) ← rec .expr ⟨st.pos, st.opn, st.ng && top⟩
 let (l, st2) ← moreF s rec 50 [n] st1
 some (l, ⟨st2.pos, st2.opn, st.ng⟩)
def outsF (s : ByteArray) (rec : Rec) (st : PSt) : Option (List Node × PSt) := do
 notF s st (bs [40])
 let (l, st2) ← listF s rec true ⟨st.pos, st.opn, true⟩
 some (l, ⟨st2.pos, st2.opn, st.ng⟩)
def concatF (s : ByteArray) (rec : Rec) : Nat → Node → PSt → Option (Node × PSt)
 | 0, _, _ => none
 | f + 1, n, st => do
  let b ← goesF s st
  if b then do
   let (m, st) ← rec .sum st
   concatF s rec f (.mk 14 (bs []) 0 [n, m] n.re n.im) st
  else some (n, st)
def sumF (s : ByteArray) (rec : Rec) : Nat → Node → PSt → Option (Node × PSt)
 | 0, _, _ => none
 | f + 1, n, st => do
  let (x, st) ← oneF s st plusminus
  match x with
  | none => some (n, st)
  | some (x, re, im) => do
   let (m, st) ← rec .product st
   sumF s rec f (.mk 15 x 0 [n, m] re im) st
def stmtsF (s : ByteArray) (rec : Rec) : Nat → List Node → PSt → Option (List Node × PSt)
 | 0, _, _ => none
 | f + 1, l, st => do
  let b ← isF s st (bs [125])
  if b then some (l, st) else do
   let (n, st) ← rec .stmt st
   let st ← linesA s st (bs [59])
   stmtsF s rec f (l ++ [n]) st

def ofText (s : String) : ByteArray := s.toUTF8

/-- 'end': of a simple statement. -/
def endF (s : ByteArray) (st : PSt) : Option PSt := do
 let t ← nextF s st.pos false
 if t.kind = 0 then some st else do
  let b ← isF s st (bs [125])
  if b then some st
  else if t.kind = 1 ∨ (t.kind = 9 ∧ same t.text (bs [59]) = true) then some ⟨t.to, st.opn, st.ng⟩ else none

def step (s : ByteArray) (rec : Rec) : Rec
 | .expr, st => do
  let (n, st) ← rec .cond st
  if lval n then do
   let (x, st) ← oneF s st assigns
   match x with
   | none => some (n, st)
   | some (x, re, im) => do
    let (m, st) ← rec .expr st
    some (.mk 7 x 0 [n, m] re im, st)
  else some (n, st)
 | .cond, st => do
  let (n, st) ← rec .or st
  noneF s st (bs [63])
  some (n, st)
 | .or, st => do
  let (n, st) ← rec .and st
  noneF s st (bs [124, 124])
  some (n, st)
 | .and, st => do
  let (n, st) ← rec .in st
  noneF s st (bs [38, 38])
  some (n, st)
 | .in, st => do
  let (n, st) ← rec .match st
  notF s st (bs [105, 110])
  some (n, st)
 | .match, st => do
  let (n, st) ← rec .compare st
  noneF s st (bs [126, 32, 33, 126])
  some (n, st)
 | .compare, st => do
  let (n, st) ← rec .concat st
  noneF s st (if st.ng then comparesNo else compares)
  some (n, st)
 | .concat, st => do
  let (n, st) ← rec .sum st
  concatF s rec 50 n st
 | .sum, st => do
  let (n, st) ← rec .product st
  sumF s rec 50 n st
 | .product, st => do
  let (n, st) ← rec .unary st
  noneF s st stars
  some (n, st)
 | .unary, st => do
  noneF s st (bs [33, 32, 45, 32, 43])
  rec .power st
 | .power, st => do
  let (n, st) ← rec .post st
  noneF s st (bs [94])
  some (n, st)
 | .post, st => do
  let (n, st) ← rec .primary st
  if lval n then do
   let (x, st) ← oneF s st incs
   match x with
   | none => some (n, st)
   | some (x, re, im) => some (.mk 18 x 0 [n] re im, st)
  else some (n, st)
 | .primary, st => do
  noneF s st incs
  notF s st (bs [40])
  rec .operand st
 | .operand, st => do
  let t ← nextF s st.pos true
  let (re, im) := placeOf s t.fr
  if t.kind = 2 then some (.mk 1 (bs []) t.num [] re im, ⟨t.to, st.opn, st.ng⟩)
  else if t.kind = 3 then (if t.text.size ≤ 256 then some (.mk 2 t.text 0 [] re im, ⟨t.to, st.opn, st.ng⟩) else none)
  else if t.kind = 5 then do
   let (b, st) ← takeF s ⟨t.to, st.opn, st.ng⟩ (bs [91])
   if b then do
    let (l, st) ← listF s rec false st
    let st ← wantF s st (bs [93])
    some (.mk 5 t.text 0 l re im, st)
   else some (.mk 4 t.text 0 [] re im, st)
  else if t.kind = 6 ∨ t.kind = 7 then rec (.call t re im) st
  else if t.kind = 9 ∧ same t.text (bs [36]) = true then do
   let (n, st) ← rec .dollar ⟨t.to, st.opn, st.ng⟩
   some (.mk 6 (bs []) 0 [n] re im, st)
  else none
 | .dollar, st => do
  noneF s st incs
  notF s st (bs [40])
  rec .operand st
 | .call t re im, st => do
  if same t.text (bs [115, 121, 115, 116, 101, 109]) || same t.text (bs [108, 101, 110, 103, 116, 104]) then none else do
   let st ← wantF s ⟨t.to, st.opn, st.ng⟩ (bs [40])
   let b ← isF s st (bs [41])
   let k : Int := if t.kind = 7 then 20 else 19
   if b then do
    let st ← wantF s st (bs [41])
    some (.mk k t.text 0 [] re im, st)
   else do
    let (l, st) ← listF s rec false st
    let st ← wantF s st (bs [41])
    some (.mk k t.text 0 l re im, st)
 | .simple, st => do
  let (_, re, im) ← hereF s st true
  notF s st (bs [98, 114, 101, 97, 107])
  notF s st (bs [99, 111, 110, 116, 105, 110, 117, 101])
  let (b, st) ← takeF s st (bs [110, 101, 120, 116])
  if b then some (.mk 38 (bs []) 0 [] re im, st) else do
   notF s st (bs [101, 120, 105, 116])
   notF s st (bs [114, 101, 116, 117, 114, 110])
   notF s st (bs [100, 101, 108, 101, 116, 101])
   let (b, st) ← takeF s st (bs [112, 114, 105, 110, 116])
   if b then do
    let c ← beginsF s st
    if c then do
     let (l, st) ← outsF s rec st
     notF s st (bs [62])
     some (.mk 42 (bs []) 0 l re im, st)
    else none
   else do
    notF s st (bs [112, 114, 105, 110, 116, 102])
    let (n, st) ← rec .expr st
    some (.mk 44 (bs []) 0 [n] n.re n.im, st)
 | .stmt, st => do
  let _ ← hereF s st true
  notF s st (bs [123])
  notF s st (bs [105, 102])
  notF s st (bs [119, 104, 105, 108, 101])
  notF s st (bs [100, 111])
  notF s st (bs [102, 111, 114])
  let (n, st) ← rec .simple st
  let st ← endF s st
  some (n, st)
 | .block, st => do
  let (_, re, im) ← hereF s st false
  let st ← wantF s st (bs [123])
  let st ← linesA s st (bs [59])
  let (l, st) ← stmtsF s rec 50 [] st
  let st ← wantF s st (bs [125])
  some (.mk 30 (bs []) 0 l re im, st)

def parN (s : ByteArray) : Nat → Rec
 | 0 => fun _ _ => none
 | n + 1 => step s (parN s n)

structure RuleP where
 kind : Int
 n : Int
 pats : List Node
 body : Node
 re : Nat
 im : Nat
structure FuncP where
 name : ByteArray
 params : List ByteArray
 body : Node
 re : Nat
 im : Nat
structure ProgP where
 rules : List RuleP
 funcs : List FuncP

def paramsF (s : ByteArray) : Nat → List ByteArray → PSt → Option (List ByteArray × PSt)
 | 0, _, _ => none
 | f + 1, l, st => do
  let b ← isF s st (bs [41])
  if b then some (l, st) else do
   let (t, st) ← nameF s st
   if l.length = 8 then none else do
    let c ← isF s st (bs [44])
    if c then do
     let (_, st) ← takeF s st (bs [44])
     let st ← linesA s st (bs [])
     let t2 ← nextF s st.pos false
     if t2.kind = 5 then paramsF s f (l ++ [t.text]) st else none
    else some (l ++ [t.text], st)
def functionF (s : ByteArray) (rec : Rec) (st : PSt) : Option (FuncP × PSt) := do
 let (_, re, im) ← hereF s st false
 let (_, st) ← takeF s st (bs [102, 117, 110, 99, 116, 105, 111, 110])
 let t ← nextF s st.pos false
 if t.kind = 6 then do
  let st ← wantF s ⟨t.to, st.opn, st.ng⟩ (bs [40])
  let (l, st) ← paramsF s 20 [] st
  let st ← wantF s st (bs [41])
  let st ← linesA s st (bs [])
  let (n, st) ← rec .block st
  some (⟨t.text, l, n, re, im⟩, st)
 else none
def ruleF (s : ByteArray) (rec : Rec) (st : PSt) : Option (RuleP × PSt) := do
 let (_, re, im) ← hereF s st true
 let (b, st) ← takeF s st (bs [66, 69, 71, 73, 78])
 if b then do
  let (n, st) ← rec .block st
  some (⟨1, 0, [], n, re, im⟩, st)
 else do
  notF s st (bs [69, 78, 68])
  notF s st (bs [71, 65, 80])
  notF s st (bs [69, 86, 69, 82, 89])
  let c ← isF s st (bs [123])
  if c then do
   let (n, st) ← rec .block st
   some (⟨5, 0, [], n, re, im⟩, st)
  else none
def itemsF (s : ByteArray) (rec : Rec) : Nat → ProgP → PSt → Option ProgP
 | 0, _, _ => none
 | f + 1, g, st => do
  let st ← linesA s st (bs [59])
  let t ← nextF s st.pos true
  if t.kind = 0 then some g else do
   let b ← isF s st (bs [102, 117, 110, 99, 116, 105, 111, 110])
   if b then do
    let (x, st) ← functionF s rec st
    itemsF s rec f ⟨g.rules, g.funcs ++ [x]⟩ st
   else do
    let (x, st) ← ruleF s rec st
    itemsF s rec f ⟨g.rules ++ [x], g.funcs⟩ st
def parseF (s : ByteArray) : Option ProgP := if s.size ≤ 4096 then itemsF s (parN s 100) 50 ⟨[], []⟩ ⟨0, 0, false⟩ else none
end Go.Proofs.YtkfillfkbhbbjaaGreatDoor
namespace Go.Proofs.YtkfillfkbhbbjaaGreatDoor
open Go.RowKit

@[go_sem] theorem run_store_float {P : Program} {w : World} {a : Addr} {m : Mode} (k : FloatKind) (n : Nat) : (store a (.float k n) m).run P w = stored P w a (.float k n) m := run_store P w a _ m rfl
@[go_sem] theorem run_store_complex {P : Program} {w : World} {a : Addr} {m : Mode} (k : FloatKind) (x y : Nat) : (store a (.complex k x y) m).run P w = stored P w a (.complex k x y) m := run_store P w a _ m rfl

/-- A call of a Go function, as one step of a region that draws. -/
theorem step_call {P : Program} {ops : Array Oper} {o : Oper} {a : Act} {w : World} {K : Act → World → Prop} {Q : Exit → Act → World → Prop} {E : Prop} (hg : o.guard = none) {f : FuncId} {vals : Array Value} (c : Call) (_ho : o.op = .call c)
  (hrun : (execOp a.eval o).run P w = .ok (.enter f vals) w) {R : Value → World → Prop} (hc : Calls P f vals w fun e w' => ∃ v, e = .returned v ∧ R v w') (hK : ∀ v w', R v w' → K (a.put o.dst v) w') :
  if Region.wanted o (yielded ops a.tmps) = true then Oper.wp P o a w K Q else E := by
 rw [if_pos (by simp [Region.wanted, hg])]
 unfold Oper.wp
 rw [hrun, Oper.upon_enter]
 exact hc.mono fun e w' ⟨v, he, hr⟩ => by subst he; exact hK v w' hr

theorem keeps_set {w W : World} (h : Keeps [] w W) {b i : Nat} {u : Value} (hb : w.heap.size ≤ b) : Keeps [] w (W.setCell ⟨b, i, none⟩ u) :=
 h.trans (fp' := [b]) (Keeps.setCell _ _ _ _ (by simp)) (by simpa using hb)
theorem keeps_new {w W : World} (h : Keeps [] w W) (o : Obj) : Keeps [] w (W.alloc o) := h.trans (Keeps.alloc [] W o) (by simp)
theorem keeps_drew {w W : World} (h : Keeps [] w W) : Keeps [] w W.drew := h.trans (Keeps.drew [] W) (by simp)

/-- A token laid cell by cell. -/
theorem tok5 {W : World} {b : Nat} (h : W.heap[b]? = some (tokC 0 ⟨#[]⟩ 0 0 0)) (kd : Int) (tx : ByteArray) (nm : Nat) (fr te : Int) :
  (((((W.setCell ⟨b, 0, none⟩ (.int .i64 kd)).setCell ⟨b, 1, none⟩ (.string tx)).setCell ⟨b, 2, none⟩ (.float .f64 nm)).setCell ⟨b, 3, none⟩ (.int .i64 fr)).setCell ⟨b, 4, none⟩ (.int .i64 te)).heap[b]? = some (tokC kd tx nm fr te) ∧ (∀ k x, k ≠ b → W.heap[k]? = some x → (((((W.setCell ⟨b, 0, none⟩ (.int .i64 kd)).setCell ⟨b, 1, none⟩ (.string tx)).setCell ⟨b, 2, none⟩ (.float .f64 nm)).setCell ⟨b, 3, none⟩ (.int .i64 fr)).setCell ⟨b, 4, none⟩ (.int .i64 te)).heap[k]? = some x) ∧ ∀ w, Keeps [] w W → w.heap.size ≤ b → Keeps [] w (((((W.setCell ⟨b, 0, none⟩ (.int .i64 kd)).setCell ⟨b, 1, none⟩ (.string tx)).setCell ⟨b, 2, none⟩ (.float .f64 nm)).setCell ⟨b, 3, none⟩ (.int .i64 fr)).setCell ⟨b, 4, none⟩ (.int .i64 te)) := by
 refine ⟨?_, fun k x hk hx => ?_, fun w hk hb => ?_⟩
 ·have := h_set_eq (i := 4) (u := .int .i64 te) (h_set_eq (i := 3) (u := .int .i64 fr) (h_set_eq (i := 2) (u := .float .f64 nm) (h_set_eq (i := 1) (u := .string tx) (h_set_eq (i := 0) (u := .int .i64 kd) h))))
  simpa using this
 ·exact h_set_ne hk (h_set_ne hk (h_set_ne hk (h_set_ne hk (h_set_ne hk hx))))
 ·exact keeps_set (keeps_set (keeps_set (keeps_set (keeps_set hk hb) hb) hb) hb) hb

theorem see_any {s : ByteArray} {p : Nat} {st : PSt} {w : World} (h : PP s p st w) {op : Bool} {t : Tok} (ht : nextF s st.pos op = some t) :
  Calls Tryz.prog 36 #[.pointer (some ⟨p, 0, none⟩), .bool op] w fun r w' => r = .returned (tokV t) ∧ Keeps [] w w' := by
 have c0 := cell_of_heap h.row 0
 have c1 := cell_of_heap h.row 1
 simp at c0 c1
 have hlt := h_lt h.row
 have hN : ∀ W, Keeps [] w W → Calls Tryz.prog 62 #[.string s, .int .i64 st.pos, .bool op] W fun r w' => ∃ v, r = .returned v ∧ (v = .tuple #[tokV t, .int .i64 0] ∧ Keeps [] W w') := fun W hk => (next_any (h.gl.keep hk (by simp)) ht h.le (by have := h.size; omega)).mono fun r w' ⟨hr, hk⟩ => ⟨_, hr, rfl, hk⟩
 have HN := zh hN
 clear h hN ht
 obtain ⟨kd, tx, nm, fr, te⟩ := t
 obtain ⟨pos, opn, ng⟩ := st
 go_enter Tryz.func36, Tryz.ntmps36
 go_upto_region 1 with fail
 go_cut [5, 6] (fun s5 s6 wx => ∃ b, s5 = .pointer (some ⟨b, 0, none⟩) ∧ s6 = .int .i64 0 ∧ w.heap.size < b ∧ wx.heap[b]? = some (tokC kd tx nm fr te) ∧ wx.heap[w.heap.size]? = some (tokC 0 ⟨#[]⟩ 0 0 0) ∧ Keeps [] w wx)
 case first =>
  go_region_law ((refine step_call (f := 62) (vals := #[.string s, .int .i64 pos, .bool op]) rfl _ rfl (by kernel_rfl) (HN.out _ (by first | exact keeps_drew (keeps_new (Keeps.refl [] w) _) | exact keeps_drew (keeps_new (keeps_new (Keeps.refl [] w) _) _))) ?_; rintro v w1 ⟨rfl, hk1⟩; have hq1 := hk1.at (show _ = some (tokC 0 ⟨#[]⟩ 0 0 0) from (by first | exact h_new w _ | exact h_alloc (h_new w _))) (by simp); have hkw : Keeps [] w w1 := (by first | exact (keeps_drew (keeps_new (Keeps.refl [] w) _)).trans hk1 (by simp) | exact (keeps_drew (keeps_new (keeps_new (Keeps.refl [] w) _) _)).trans hk1 (by simp)); have hsz1 := hk1.size; simp at hsz1; have q0 := cell_of_heap hq1 0; have q1 := cell_of_heap hq1 1; have q2 := cell_of_heap hq1 2; have q3 := cell_of_heap hq1 3; have q4 := cell_of_heap hq1 4; have qf0 := frozen_of_heap hq1 0; have qf1 := frozen_of_heap hq1 1; have qf2 := frozen_of_heap hq1 2; have qf3 := frozen_of_heap hq1 3; have qf4 := frozen_of_heap hq1 4; simp at q0 q1 q2 q3 q4; try (have hb1 := hk1.at (h_new (w.alloc (tokC 0 ⟨#[]⟩ 0 0 0)) (tokC 0 ⟨#[]⟩ 0 0 0)) (by simp); rw [show (w.alloc (tokC 0 ⟨#[]⟩ 0 0 0)).heap.size = w.heap.size + 1 from by simp] at hb1; have b0 := cell_of_heap hb1 0; have b1 := cell_of_heap hb1 1; have b2 := cell_of_heap hb1 2; have b3 := cell_of_heap hb1 3; have b4 := cell_of_heap hb1 4; have bf0 := frozen_of_heap hb1 0; have bf1 := frozen_of_heap hb1 1; have bf2 := frozen_of_heap hb1 2; have bf3 := frozen_of_heap hb1 3; have bf4 := frozen_of_heap hb1 4; simp at b0 b1 b2 b3 b4)))
  all_goals
   go_wp2_with fail
   go_meet
   case rel =>
    refine ⟨_, rfl, rfl, ?_⟩
    first
     | (have t := tok5 hb1 kd tx nm fr te
        refine ⟨Nat.lt_succ_self _, t.1, ?_, ?_⟩
        ·exact t.2.1 _ _ (Nat.ne_of_lt (Nat.lt_succ_self _)) hq1
        ·exact t.2.2 w hkw (Nat.le_succ _))
     | (refine ⟨hsz1, h_new w1 (tokC kd tx nm fr te), ?_, ?_⟩
        ·exact h_alloc hq1
        ·exact keeps_new hkw _)
 case rest =>
  obtain ⟨b, rfl, rfl, hb, hr, hq, hk⟩ := hcut
  have x0 := cell_of_heap hr 0
  have x1 := cell_of_heap hr 1
  have x2 := cell_of_heap hr 2
  have x3 := cell_of_heap hr 3
  have x4 := cell_of_heap hr 4
  simp at x0 x1 x2 x3 x4
  have HQ := zh hq; have HK := zh hk
  clear hr hq hk
  go_wp2_with ((with_reducible show wpList _ _ _ (Oper.mk none (.store 90 _ _) _ _ _ _ :: _) _ _); refine stT 90 w.heap.size 0 _ HQ.out rfl (.agg #[.int .i64 kd, .string tx, .float .f64 nm, .int .i64 fr, .int .i64 te]) rfl (by kernel_rfl) (by simp [Value.cells]) (by simp [Value.cells, Value.oneCell']) ?_)
  intro w3 hs3
  have y0 := cell_of_heap hs3.row 0
  have y1 := cell_of_heap hs3.row 1
  have y2 := cell_of_heap hs3.row 2
  have y3 := cell_of_heap hs3.row 3
  have y4 := cell_of_heap hs3.row 4
  simp at y0 y1 y2 y3 y4
  have HK3 := zh (HK.out.trans hs3.keeps (by simp))
  clear hs3 x0 x1 x2 x3 x4
  go_wp2_with fail
  exact bodyPost_ret (v := .agg #[.int .i64 kd, .string tx, .float .f64 nm, .int .i64 fr, .int .i64 te]) (by simp [results, Tryz.results36, go_sem, y0, y1, y2, y3, y4]) rfl ⟨rfl, HK3.out⟩
end Go.Proofs.YtkfillfkbhbbjaaGreatDoor
namespace Go.Proofs.YtkfillfkbhbbjaaGreatDoor
open Go.RowKit

/-- The place in the text is put elsewhere. -/
theorem PP.put {s : ByteArray} {p : Nat} {st : PSt} {W : World} (h : PP s p st W) {te : Nat} (ht : te ≤ s.size) : PP s p ⟨te, st.opn, st.ng⟩ (W.setCell ⟨p, 1, none⟩ (.int .i64 te)) ∧ Keeps [p] W (W.setCell ⟨p, 1, none⟩ (.int .i64 te)) := by
 have hk : Keeps [p] W (W.setCell ⟨p, 1, none⟩ (.int .i64 te)) := Keeps.setCell _ _ _ _ (by simp)
 refine ⟨⟨h.gl.keep hk (by have := h.p; simpa using this), ?_, h.p, h.size, ht, h.ob⟩, hk⟩
 have := h_set_eq (i := 1) (u := .int .i64 te) h.row
 simpa using this

theorem PP.keepN {s : ByteArray} {p : Nat} {st : PSt} {w w' : World} (h : PP s p st w) {fp : List Nat} (hk : Keeps fp w w') (hp : p ∉ fp) (hf : ∀ x ∈ fp, 14 < x) : PP s p st w' :=
 ⟨h.gl.keep hk hf, hk.at h.row hp, h.p, h.size, h.le, h.ob⟩
theorem tok5k (W : World) (b : Nat) (kd : Int) (tx : ByteArray) (nm : Nat) (fr te : Int) : Keeps [b] W (((((W.setCell ⟨b, 0, none⟩ (.int .i64 kd)).setCell ⟨b, 1, none⟩ (.string tx)).setCell ⟨b, 2, none⟩ (.float .f64 nm)).setCell ⟨b, 3, none⟩ (.int .i64 fr)).setCell ⟨b, 4, none⟩ (.int .i64 te)) :=
 ((((Keeps.setCell [b] W _ _ (by simp)).trans (Keeps.setCell [b] _ _ _ (by simp)) (by simp)).trans (Keeps.setCell [b] _ _ _ (by simp)) (by simp)).trans (Keeps.setCell [b] _ _ _ (by simp)) (by simp)).trans (Keeps.setCell [b] _ _ _ (by simp)) (by simp)

theorem name_any {s : ByteArray} {p : Nat} {st : PSt} {w : World} (h : PP s p st w) {t : Tok} (ht : nextF s st.pos false = some t) (h5 : t.kind = 5) :
  Calls Tryz.prog 106 #[.pointer (some ⟨p, 0, none⟩)] w fun r w' => r = .returned (tokV t) ∧ PP s p ⟨t.to, st.opn, st.ng⟩ w' ∧ Keeps [p] w w' := by
 have hsee := fun W (hP : PP s p st W) => see_any hP ht
 obtain ⟨le1, le2, le3⟩ := nextF_le ht h.le
 have hlt := h_lt h.row
 have H := zh h; have HS := zh hsee
 clear h hsee ht
 obtain ⟨kd, tx, nm, fr, te⟩ := t
 simp only at h5 le1 le2 le3
 subst h5
 go_enter Tryz.func106, Tryz.ntmps106
 go_wp2_with fail
 refine (HS.out _ (H.out.keep (Keeps.alloc [] w (tokC 0 ⟨#[]⟩ 0 0 0)))).mono ?_
 rintro r w1 ⟨rfl, hk1⟩
 have hq1 := hk1.at (h_new w (tokC 0 ⟨#[]⟩ 0 0 0)) (by simp)
 have hkw : Keeps [] w w1 := (Keeps.alloc [] w _).trans hk1 (by simp)
 have HP2 := zh (H.out.keep (hkw.trans (Keeps.alloc [] w1 (tokC 5 tx nm fr te)) (by simp)))
 have HQ2 := zh (h_alloc (o := tokC 5 tx nm fr te) hq1)
 have HK2 := zh (hkw.trans (Keeps.alloc [] w1 (tokC 5 tx nm fr te)) (by simp))
 have HN2 := zh (h_new w1 (tokC 5 tx nm fr te))
 have hsz : w.heap.size < w1.heap.size := by have := hk1.size; simp at this; omega
 clear hq1 hkw hk1
 go_upto_region 2 with fail
 generalize hw2 : w1.alloc (tokC 5 tx nm fr te) = w2 at *
 have x0 := cell_of_heap HN2.out 0
 have xf0 := frozen_of_heap HN2.out 0
 have x1 := cell_of_heap HN2.out 1
 have xf1 := frozen_of_heap HN2.out 1
 have x2 := cell_of_heap HN2.out 2
 have xf2 := frozen_of_heap HN2.out 2
 have x3 := cell_of_heap HN2.out 3
 have xf3 := frozen_of_heap HN2.out 3
 have x4 := cell_of_heap HN2.out 4
 have xf4 := frozen_of_heap HN2.out 4
 simp at x0 x1 x2 x3 x4
 have q0 := cell_of_heap HQ2.out 0
 have qf0 := frozen_of_heap HQ2.out 0
 have q1 := cell_of_heap HQ2.out 1
 have qf1 := frozen_of_heap HQ2.out 1
 have q2 := cell_of_heap HQ2.out 2
 have qf2 := frozen_of_heap HQ2.out 2
 have q3 := cell_of_heap HQ2.out 3
 have qf3 := frozen_of_heap HQ2.out 3
 have q4 := cell_of_heap HQ2.out 4
 have qf4 := frozen_of_heap HQ2.out 4
 simp at q0 q1 q2 q3 q4
 have c1 := cell_of_heap HP2.out.row 1
 have f1 := frozen_of_heap HP2.out.row 1
 simp at c1
 have n1 : p ≠ w1.heap.size := by omega
 have n2 : p ≠ w.heap.size := by omega
 have n3 : w1.heap.size ≠ p := by omega
 have n4 : w.heap.size ≠ p := by omega
 have n5 : w.heap.size ≠ w1.heap.size := by omega
 have n6 : w1.heap.size ≠ w.heap.size := by omega
 have hl2 : w.heap.size < w2.heap.size := by have := h_lt HQ2.out; omega
 have hl3 : p < w2.heap.size := by omega
 clear hw2
 go_wp2_with fail
 refine (ok_any HP2.out).mono ?_
 rintro r w' ⟨rfl, hw'⟩
 rw [hw']
 clear hw'
 go_wp2_with fail
 refine (ok_any HP2.out).mono ?_
 rintro r w' ⟨rfl, hw'⟩
 rw [hw']
 clear hw'
 go_wp2_with fail
 obtain ⟨hp3, hk3⟩ := HP2.out.put le2
 have h14 : 14 < w.heap.size := Nat.lt_of_lt_of_le HP2.out.p (Nat.le_of_lt hlt)
 have t5 := tok5k (w2.setCell ⟨p, 1, none⟩ (.int .i64 te)) w.heap.size 5 tx nm fr te
 refine bodyPost_ret (v := .agg #[.int .i64 5, .string tx, .float .f64 nm, .int .i64 fr, .int .i64 te]) (by simp [results, Tryz.results106, go_sem, q0, q1, q2, q3, q4]) rfl ⟨rfl, ?_, ?_⟩
 ·exact hp3.keepN t5 (by simpa using n2) (by simpa using h14)
 ·exact ((HK2.out.weaken (fp' := [p]) (by simp)).trans hk3 (by simp)).trans t5 (by simp)
end Go.Proofs.YtkfillfkbhbbjaaGreatDoor
namespace Go.Proofs.YtkfillfkbhbbjaaGreatDoor
open Go.RowKit

theorem Keeps.nil {w w' : World} (h : Keeps [] w w') (p : Nat) : Keeps [p] w w' := h.weaken (by simp)

theorem one_no1 {s : ByteArray} {p : Nat} {st : PSt} {w : World} (h : PP s p st w) {t : Tok} (ht : nextF s st.pos false = some t) (sg : ByteArray) (hsg : sg.size ≤ 1000000) (h9 : ¬ t.kind = 9) :
  Calls Tryz.prog 132 #[.pointer (some ⟨p, 0, none⟩), .string sg] w fun r w' => r = .returned (.tuple #[.string ⟨#[]⟩, .complex .f64 0 0, .bool false]) ∧ Keeps [] w w' := by
 have H := zh h; have HT := zh ht
 clear h ht
 obtain ⟨kd, tx, nm, fr, te⟩ := t
 simp only at h9
 have n9 : (kd == 9) = false := beq_false_of_ne h9
 have n9' : (kd != 9) = true := by simp [h9]
 have c1 := cell_of_heap H.out.row 1
 simp at c1
 have hlt := h_lt H.out.row
 go_enter Tryz.func132, Tryz.ntmps132
 go_wp2_with fail
 refine (ok_any H.out).mono ?_
 rintro r w' ⟨rfl, hw'⟩
 rw [hw']
 clear hw'
 go_wp2_with fail
 refine (peek_any H.out HT.out H.out.le).mono ?_
 rintro r w1 ⟨rfl, hk1⟩
 have HP1 := zh (H.out.keep hk1)
 have HK1 := zh hk1
 clear hk1 c1
 go_wp2_with ((with_reducible show wpList _ _ _ (Oper.mk none (.store 90 _ _) _ _ _ _ :: _) _ _); refine stT 90 w1.heap.size 0 _ (h_new _ _) rfl (.agg #[.int .i64 kd, .string tx, .float .f64 nm, .int .i64 fr, .int .i64 te]) rfl (by kernel_rfl) (by simp [Value.cells]) (by simp [Value.cells, Value.oneCell']) ?_)
 intro w2 hs2
 have x0 := cell_of_heap hs2.row 0
 have x1 := cell_of_heap hs2.row 1
 have x2 := cell_of_heap hs2.row 2
 have x3 := cell_of_heap hs2.row 3
 have x4 := cell_of_heap hs2.row 4
 simp at x0 x1 x2 x3 x4
 have hsz2 := HK1.out.size
 have HTR2 := zh hs2.row
 have hst2 : Keeps [] w1 w2 := (Keeps.alloc [] w1 (tokC 0 ⟨#[]⟩ 0 0 0)).trans hs2.keeps (by simp)
 have HST2 := zh hst2
 have HK2 := zh (HK1.out.trans hst2 (by simp))
 clear hs2 hst2
 have HP2 := zh (HP1.out.keep HST2.out)

 go_wp2_with fail
 exact bodyPost_ret (v := .tuple #[.string ⟨#[]⟩, .complex .f64 0 0, .bool false]) (by simp [results, Tryz.results132, go_sem]) rfl ⟨rfl, HK2.out⟩

theorem one_no2 {s : ByteArray} {p : Nat} {st : PSt} {w : World} (h : PP s p st w) {t : Tok} (ht : nextF s st.pos false = some t) (sg : ByteArray) (hsg : sg.size ≤ 1000000) (h9 : t.kind = 9) (ha : among sg t.text = false) :
  Calls Tryz.prog 132 #[.pointer (some ⟨p, 0, none⟩), .string sg] w fun r w' => r = .returned (.tuple #[.string ⟨#[]⟩, .complex .f64 0 0, .bool false]) ∧ Keeps [] w w' := by
 have H := zh h; have HT := zh ht
 clear h ht
 obtain ⟨kd, tx, nm, fr, te⟩ := t
 simp only at h9 ha
 subst h9
 have hA := fun W => among_any sg tx hsg W
 rw [ha] at hA
 have HA := zh hA
 clear hA ha
 have c1 := cell_of_heap H.out.row 1
 simp at c1
 have hlt := h_lt H.out.row
 go_enter Tryz.func132, Tryz.ntmps132
 go_wp2_with fail
 refine (ok_any H.out).mono ?_
 rintro r w' ⟨rfl, hw'⟩
 rw [hw']
 clear hw'
 go_wp2_with fail
 refine (peek_any H.out HT.out H.out.le).mono ?_
 rintro r w1 ⟨rfl, hk1⟩
 have HP1 := zh (H.out.keep hk1)
 have HK1 := zh hk1
 clear hk1 c1
 go_wp2_with ((with_reducible show wpList _ _ _ (Oper.mk none (.store 90 _ _) _ _ _ _ :: _) _ _); refine stT 90 w1.heap.size 0 _ (h_new _ _) rfl (.agg #[.int .i64 9, .string tx, .float .f64 nm, .int .i64 fr, .int .i64 te]) rfl (by kernel_rfl) (by simp [Value.cells]) (by simp [Value.cells, Value.oneCell']) ?_)
 intro w2 hs2
 have x0 := cell_of_heap hs2.row 0
 have x1 := cell_of_heap hs2.row 1
 have x2 := cell_of_heap hs2.row 2
 have x3 := cell_of_heap hs2.row 3
 have x4 := cell_of_heap hs2.row 4
 simp at x0 x1 x2 x3 x4
 have hsz2 := HK1.out.size
 have HTR2 := zh hs2.row
 have hst2 : Keeps [] w1 w2 := (Keeps.alloc [] w1 (tokC 0 ⟨#[]⟩ 0 0 0)).trans hs2.keeps (by simp)
 have HST2 := zh hst2
 have HK2 := zh (HK1.out.trans hst2 (by simp))
 clear hs2 hst2
 have HP2 := zh (HP1.out.keep HST2.out)

 go_wp2_with fail
 refine (HA.out _).mono ?_
 rintro r w' ⟨rfl, hw'⟩
 rw [hw']
 clear hw'
 go_wp2_with fail
 exact bodyPost_ret (v := .tuple #[.string ⟨#[]⟩, .complex .f64 0 0, .bool false]) (by simp [results, Tryz.results132, go_sem]) rfl ⟨rfl, HK2.out⟩

theorem one_yes {s : ByteArray} {p : Nat} {st : PSt} {w : World} (h : PP s p st w) {t : Tok} (ht : nextF s st.pos false = some t) (sg : ByteArray) (hsg : sg.size ≤ 1000000) (h9 : t.kind = 9) (ha : among sg t.text = true) :
  Calls Tryz.prog 132 #[.pointer (some ⟨p, 0, none⟩), .string sg] w fun r w' => r = .returned (.tuple #[.string t.text, .complex .f64 (placeOf s t.fr).1 (placeOf s t.fr).2, .bool true]) ∧ PP s p ⟨t.to, st.opn, st.ng⟩ w' ∧ Keeps [p] w w' := by
 obtain ⟨le1, le2, le3⟩ := nextF_le ht h.le
 have H := zh h; have HT := zh ht
 clear h ht
 obtain ⟨kd, tx, nm, fr, te⟩ := t
 simp only at h9 ha le1 le2 le3
 subst h9
 have hA := fun W => among_any sg tx hsg W
 rw [ha] at hA
 have HA := zh hA
 clear hA ha
 have c1 := cell_of_heap H.out.row 1
 simp at c1
 have hlt := h_lt H.out.row
 go_enter Tryz.func132, Tryz.ntmps132
 go_wp2_with fail
 refine (ok_any H.out).mono ?_
 rintro r w' ⟨rfl, hw'⟩
 rw [hw']
 clear hw'
 go_wp2_with fail
 refine (peek_any H.out HT.out H.out.le).mono ?_
 rintro r w1 ⟨rfl, hk1⟩
 have HP1 := zh (H.out.keep hk1)
 have HK1 := zh hk1
 clear hk1 c1
 go_wp2_with ((with_reducible show wpList _ _ _ (Oper.mk none (.store 90 _ _) _ _ _ _ :: _) _ _); refine stT 90 w1.heap.size 0 _ (h_new _ _) rfl (.agg #[.int .i64 9, .string tx, .float .f64 nm, .int .i64 fr, .int .i64 te]) rfl (by kernel_rfl) (by simp [Value.cells]) (by simp [Value.cells, Value.oneCell']) ?_)
 intro w2 hs2
 have x0 := cell_of_heap hs2.row 0
 have x1 := cell_of_heap hs2.row 1
 have x2 := cell_of_heap hs2.row 2
 have x3 := cell_of_heap hs2.row 3
 have x4 := cell_of_heap hs2.row 4
 simp at x0 x1 x2 x3 x4
 have hsz2 := HK1.out.size
 have HTR2 := zh hs2.row
 have hst2 : Keeps [] w1 w2 := (Keeps.alloc [] w1 (tokC 0 ⟨#[]⟩ 0 0 0)).trans hs2.keeps (by simp)
 have HST2 := zh hst2
 have HK2 := zh (HK1.out.trans hst2 (by simp))
 clear hs2 hst2
 have HP2 := zh (HP1.out.keep HST2.out)

 have n1 : p ≠ w1.heap.size := by omega
 have n2 : w1.heap.size ≠ p := by omega
 have c1 := cell_of_heap HP2.out.row 1
 have f1 := frozen_of_heap HP2.out.row 1
 simp at c1
 have hl3 : p < w2.heap.size := h_lt HP2.out.row
 go_wp2_with fail
 refine (HA.out _).mono ?_
 rintro r w' ⟨rfl, hw'⟩
 rw [hw']
 clear hw'
 go_upto_region 7 with fail
 obtain ⟨hp3, hk3⟩ := HP2.out.put le2
 have x0' := x0; have hr3 := hk3.at HTR2.out (by simp; omega)
 have z0 := cell_of_heap hr3 0
 have z1 := cell_of_heap hr3 1
 have z2 := cell_of_heap hr3 2
 have z3 := cell_of_heap hr3 3
 have z4 := cell_of_heap hr3 4
 simp at z0 z1 z2 z3 z4
 have HK3 := zh ((HK2.out.nil p).trans hk3 (by simp))
 have HP3 := zh hp3
 clear hp3 hk3 x0 x1 x2 x3 x4 x0' hr3 c1 f1
 generalize w2.setCell ⟨p, 1, none⟩ (.int .i64 te) = w3 at *
 have hpl : ∀ W, Keeps [] w3 W → Calls Tryz.prog 126 #[.pointer (some ⟨p, 0, none⟩), tokV ⟨9, tx, nm, fr, te⟩] W fun r w' => ∃ v, r = .returned v ∧ (v = .complex .f64 (placeOf s fr).1 (placeOf s fr).2 ∧ Keeps [] W w') := fun W hk => (place_tok (HP3.out.keep hk) ⟨9, tx, nm, fr, te⟩ (by simp only; omega)).mono fun r w' ⟨hr, hk⟩ => ⟨_, hr, rfl, hk⟩
 have HPL := zh hpl
 clear hpl
 have hb3 : w1.heap.size < w3.heap.size := World.block_lt_of_cell? w3 ⟨w1.heap.size, 0, none⟩ z0
 generalize hpc : placeOf s fr = pc at *
 obtain ⟨p1, p2⟩ := pc
 go_region_law ((refine step_call (f := 126) (vals := #[.pointer (some ⟨p, 0, none⟩), tokV ⟨9, tx, nm, fr, te⟩]) rfl _ rfl (by kernel_rfl) (HPL.out _ (by first | exact Keeps.drew [] w3 | exact Keeps.refl [] w3)) ?_; rintro v w4 ⟨rfl, hk4⟩; have u0 := hk4.cell (by simpa using hb3) z0; have u1 := hk4.cell (by simpa using hb3) z1; have hkw : Keeps [] w3 w4 := (by first | exact (Keeps.drew [] w3).trans hk4 (by simp) | exact hk4)))
 all_goals
  have hfin : PP s p ⟨te, st.opn, st.ng⟩ w4 ∧ Keeps [p] w w4 := ⟨HP3.out.keep hkw, HK3.out.trans hkw (by simp)⟩
  have HF := zh hfin
  clear hfin hkw hk4 u0 u1
  go_wp2_with fail
  exact bodyPost_ret (v := .tuple #[.string tx, .complex .f64 p1 p2, .bool true]) (by simp [results, Tryz.results132, go_sem]) rfl ⟨rfl, HF.out.1, HF.out.2⟩
end Go.Proofs.YtkfillfkbhbbjaaGreatDoor
namespace Go.Proofs.YtkfillfkbhbbjaaGreatDoor
open Go.RowKit

theorem here_any {s : ByteArray} {p : Nat} {st : PSt} {w : World} (h : PP s p st w) {op : Bool} {t : Tok} (ht : nextF s st.pos op = some t) :
  Calls Tryz.prog 103 #[.pointer (some ⟨p, 0, none⟩), .bool op] w fun r w' => r = .returned (.tuple #[tokV t, .complex .f64 (placeOf s t.fr).1 (placeOf s t.fr).2]) ∧ Keeps [] w w' := by
 have c0 := cell_of_heap h.row 0
 have c1 := cell_of_heap h.row 1
 simp at c0 c1
 have hlt := h_lt h.row
 have hN : ∀ W, Keeps [] w W → Calls Tryz.prog 62 #[.string s, .int .i64 st.pos, .bool op] W fun r w' => ∃ v, r = .returned v ∧ (v = .tuple #[tokV t, .int .i64 0] ∧ Keeps [] W w') := fun W hk => (next_any (h.gl.keep hk (by simp)) ht h.le (by have := h.size; omega)).mono fun r w' ⟨hr, hk⟩ => ⟨_, hr, rfl, hk⟩
 obtain ⟨le1, le2, le3⟩ := nextF_le ht h.le
 have HN := zh hN; have H := zh h
 clear h hN ht
 obtain ⟨kd, tx, nm, fr, te⟩ := t
 obtain ⟨pos, opn, ng⟩ := st
 simp only at le1 le2 le3
 go_enter Tryz.func103, Tryz.ntmps103
 go_upto_region 1 with fail
 go_cut [6, 7] (fun s5 s6 wx => ∃ b, s5 = .pointer (some ⟨b, 0, none⟩) ∧ s6 = .int .i64 0 ∧ w.heap.size < b ∧ wx.heap[b]? = some (tokC kd tx nm fr te) ∧ wx.heap[w.heap.size]? = some (tokC 0 ⟨#[]⟩ 0 0 0) ∧ Keeps [] w wx)
 case first =>
  go_region_law ((refine step_call (f := 62) (vals := #[.string s, .int .i64 pos, .bool op]) rfl _ rfl (by kernel_rfl) (HN.out _ (by first | exact keeps_drew (keeps_new (Keeps.refl [] w) _) | exact keeps_drew (keeps_new (keeps_new (Keeps.refl [] w) _) _))) ?_; rintro v w1 ⟨rfl, hk1⟩; have hq1 := hk1.at (show _ = some (tokC 0 ⟨#[]⟩ 0 0 0) from (by first | exact h_new w _ | exact h_alloc (h_new w _))) (by simp); have hkw : Keeps [] w w1 := (by first | exact (keeps_drew (keeps_new (Keeps.refl [] w) _)).trans hk1 (by simp) | exact (keeps_drew (keeps_new (keeps_new (Keeps.refl [] w) _) _)).trans hk1 (by simp)); have hsz1 := hk1.size; simp at hsz1; have q0 := cell_of_heap hq1 0; have q1 := cell_of_heap hq1 1; have q2 := cell_of_heap hq1 2; have q3 := cell_of_heap hq1 3; have q4 := cell_of_heap hq1 4; have qf0 := frozen_of_heap hq1 0; have qf1 := frozen_of_heap hq1 1; have qf2 := frozen_of_heap hq1 2; have qf3 := frozen_of_heap hq1 3; have qf4 := frozen_of_heap hq1 4; simp at q0 q1 q2 q3 q4; try (have hb1 := hk1.at (h_new (w.alloc (tokC 0 ⟨#[]⟩ 0 0 0)) (tokC 0 ⟨#[]⟩ 0 0 0)) (by simp); rw [show (w.alloc (tokC 0 ⟨#[]⟩ 0 0 0)).heap.size = w.heap.size + 1 from by simp] at hb1; have b0 := cell_of_heap hb1 0; have b1 := cell_of_heap hb1 1; have b2 := cell_of_heap hb1 2; have b3 := cell_of_heap hb1 3; have b4 := cell_of_heap hb1 4; have bf0 := frozen_of_heap hb1 0; have bf1 := frozen_of_heap hb1 1; have bf2 := frozen_of_heap hb1 2; have bf3 := frozen_of_heap hb1 3; have bf4 := frozen_of_heap hb1 4; simp at b0 b1 b2 b3 b4)))
  all_goals
   go_wp2_with fail
   go_meet
   case rel =>
    refine ⟨_, rfl, rfl, ?_⟩
    first
     | (have t := tok5 hb1 kd tx nm fr te
        refine ⟨Nat.lt_succ_self _, t.1, ?_, ?_⟩
        ·exact t.2.1 _ _ (Nat.ne_of_lt (Nat.lt_succ_self _)) hq1
        ·exact t.2.2 w hkw (Nat.le_succ _))
     | (refine ⟨hsz1, h_new w1 (tokC kd tx nm fr te), ?_, ?_⟩
        ·exact h_alloc hq1
        ·exact keeps_new hkw _)
 case rest =>
  obtain ⟨b, rfl, rfl, hb, hr, hq, hk⟩ := hcut
  have x0 := cell_of_heap hr 0
  have x1 := cell_of_heap hr 1
  have x2 := cell_of_heap hr 2
  have x3 := cell_of_heap hr 3
  have x4 := cell_of_heap hr 4
  simp at x0 x1 x2 x3 x4
  have HR := zh hr; have HQ := zh hq; have HK := zh hk
  have hbl : b < wc.heap.size := h_lt hr
  have hpl : ∀ W, Keeps [] wc W → Calls Tryz.prog 126 #[.pointer (some ⟨p, 0, none⟩), tokV ⟨kd, tx, nm, fr, te⟩] W fun r w' => ∃ v, r = .returned v ∧ (v = .complex .f64 (placeOf s fr).1 (placeOf s fr).2 ∧ Keeps [] W w') := fun W hk' => (place_tok ((H.out.keep hk).keep hk') ⟨kd, tx, nm, fr, te⟩ (by simp only; omega)).mono fun r w' ⟨hr, hk⟩ => ⟨_, hr, rfl, hk⟩
  have HPL := zh hpl
  clear hr hq hk hpl
  generalize hpc : placeOf s fr = pc at *
  obtain ⟨p1, p2⟩ := pc
  go_upto_region 2 with fail
  go_region_law ((refine step_call (f := 126) (vals := #[.pointer (some ⟨p, 0, none⟩), tokV ⟨kd, tx, nm, fr, te⟩]) rfl _ rfl (by kernel_rfl) (HPL.out _ (by first | exact Keeps.drew [] wc | exact Keeps.refl [] wc)) ?_; rintro v w4 ⟨rfl, hk4⟩; have hkw : Keeps [] wc w4 := (by first | exact (Keeps.drew [] wc).trans hk4 (by simp) | exact hk4); have hr4 := hkw.at HR.out (by simp); have hq4 := hkw.at HQ.out (by simp); have u0 := cell_of_heap hr4 0; have u1 := cell_of_heap hr4 1; have u2 := cell_of_heap hr4 2; have u3 := cell_of_heap hr4 3; have u4 := cell_of_heap hr4 4; have v0 := cell_of_heap hq4 0; have v1 := cell_of_heap hq4 1; have v2 := cell_of_heap hq4 2; have v3 := cell_of_heap hq4 3; have v4 := cell_of_heap hq4 4; have vf0 := frozen_of_heap hq4 0; have vf1 := frozen_of_heap hq4 1; have vf2 := frozen_of_heap hq4 2; have vf3 := frozen_of_heap hq4 3; have vf4 := frozen_of_heap hq4 4; simp at u0 u1 u2 u3 u4 v0 v1 v2 v3 v4; have hl4 : w.heap.size < w4.heap.size := h_lt hq4))
  all_goals
   have t := tok5 hq4 kd tx nm fr te
   have hkf := t.2.2 w (HK.out.trans hkw (by simp)) (Nat.le_refl _)
   have HF := zh hkf
   clear hkf t hkw hr4 hq4 u0 u1 u2 u3 u4 hk4
   go_wp2_with fail
   exact bodyPost_ret (v := .tuple #[.agg #[.int .i64 kd, .string tx, .float .f64 nm, .int .i64 fr, .int .i64 te], .complex .f64 p1 p2]) (by simp [results, Tryz.results103, go_sem, v0, v1, v2, v3, v4]) rfl ⟨rfl, HF.out⟩
end Go.Proofs.YtkfillfkbhbbjaaGreatDoor
namespace Go.Proofs.YtkfillfkbhbbjaaGreatDoor
open Go.RowKit

mutual
/-- The value v is the node n; what it lies in are blocks of S. -/
inductive NodeR (w : World) (S : Nat → Prop) : Node → Value → Prop
 | mk {kind : Int} {name : ByteArray} {num : Nat} {kids : List Node} {re im : Nat} {kv : Value} (h : KidsR w S kids kv) :
   NodeR w S (.mk kind name num kids re im) (.agg #[.int .i64 kind, .string name, .float .f64 num, kv, .complex .f64 re im])
/-- The value v is a slice of these nodes. -/
inductive KidsR (w : World) (S : Nat → Prop) : List Node → Value → Prop
 | nil {a : Option Addr} {cap : Nat} : KidsR w S [] (.slice a 0 cap)
 | some {n : Node} {ns : List Node} {g o cap : Nat} (hS : S g) (hg : g < w.heap.size) (h : RowR w S g o (n :: ns)) : KidsR w S (n :: ns) (.slice (some ⟨g, o, none⟩) (ns.length + 1) cap)
/-- These nodes lie in block g from o on. -/
inductive RowR (w : World) (S : Nat → Prop) : Nat → Nat → List Node → Prop
 | nil {g o : Nat} : RowR w S g o []
 | cons {g o : Nat} {n : Node} {ns : List Node} {c0 c1 c2 c3 c4 : Value} (hn : NodeR w S n (.agg #[c0, c1, c2, c3, c4])) (h0 : w.cell? ⟨g, o, none⟩ = some c0) (h1 : w.cell? ⟨g, o + 1, none⟩ = some c1)
   (h2 : w.cell? ⟨g, o + 2, none⟩ = some c2) (h3 : w.cell? ⟨g, o + 3, none⟩ = some c3) (h4 : w.cell? ⟨g, o + 4, none⟩ = some c4) (hr : RowR w S g (o + 5) ns) : RowR w S g o (n :: ns)
end

mutual
/-- What nodes lie in stays; and it may be said of more blocks. -/
theorem NodeR.keep {w w' : World} {S T : Nat → Prop} {fp : List Nat} (hk : Keeps fp w w') (hf : ∀ x ∈ fp, ¬ S x) (hT : ∀ x, S x → T x) {n : Node} {v : Value} (h : NodeR w S n v) : NodeR w' T n v := by
 cases h with
 | mk h => exact .mk (KidsR.keep hk hf hT h)
theorem KidsR.keep {w w' : World} {S T : Nat → Prop} {fp : List Nat} (hk : Keeps fp w w') (hf : ∀ x ∈ fp, ¬ S x) (hT : ∀ x, S x → T x) {ns : List Node} {v : Value} (h : KidsR w S ns v) : KidsR w' T ns v := by
 cases h with
 | nil => exact .nil
 | some hS hg h => exact .some (hT _ hS) (Nat.lt_of_lt_of_le hg hk.size) (RowR.keep hk hf hT hS hg h)
theorem RowR.keep {w w' : World} {S T : Nat → Prop} {fp : List Nat} (hk : Keeps fp w w') (hf : ∀ x ∈ fp, ¬ S x) (hT : ∀ x, S x → T x) {g o : Nat} (hS : S g) (hg : g < w.heap.size) {ns : List Node} (h : RowR w S g o ns) : RowR w' T g o ns := by
 cases h with
 | nil => exact .nil
 | cons hn h0 h1 h2 h3 h4 hr =>
  have hc : ∀ i v, w.cell? ⟨g, i, none⟩ = some v → w'.cell? ⟨g, i, none⟩ = some v := fun i v h => by
   rw [World.cell?_of_block (w := w) (a := ⟨g, i, none⟩) (hk.block g hg fun hm => hf g hm hS)]; exact h
  exact .cons (NodeR.keep hk hf hT hn) (hc _ _ h0) (hc _ _ h1) (hc _ _ h2) (hc _ _ h3) (hc _ _ h4) (RowR.keep hk hf hT hS hg hr)
end
theorem NodeR.keep0 {w w' : World} {S : Nat → Prop} (hk : Keeps [] w w') {n : Node} {v : Value} (h : NodeR w S n v) : NodeR w' S n v := h.keep hk (by simp) fun _ h => h

theorem KidsR.slice {w : World} {S : Nat → Prop} {ns : List Node} {v : Value} (h : KidsR w S ns v) : ∃ a l cap, v = .slice a l cap := by
 cases h with
 | nil => exact ⟨_, _, _, rfl⟩
 | some hS hg h => exact ⟨_, _, _, rfl⟩
theorem NodeR.shape {w : World} {S : Nat → Prop} {n : Node} {v : Value} (h : NodeR w S n v) : ∃ name num a l cap re im, v = .agg #[.int .i64 n.kind, .string name, .float .f64 num, .slice a l cap, .complex .f64 re im] ∧ re = n.re ∧ im = n.im := by
 cases h with
 | mk h =>
  obtain ⟨a, l, cap, rfl⟩ := h.slice
  exact ⟨_, _, _, _, _, _, _, rfl, rfl, rfl⟩
set_option maxRecDepth 100000 in
set_option maxHeartbeats 1000000 in
theorem lvalue_any {w : World} {S : Nat → Prop} {n : Node} {v : Value} (h : NodeR w S n v) : Calls Tryz.prog 131 #[v] w fun r w' => r = .returned (.bool (lval n)) ∧ Keeps [] w w' := by
 obtain ⟨name, num, a, l, cap, re, im, rfl, _, _⟩ := h.shape
 have hl : lval n = (n.kind == 4 || n.kind == 5 || n.kind == 6) := rfl
 rw [hl]
 generalize n.kind = k at *
 clear hl h
 by_cases h4 : k = 4
 ·subst h4
  go_enter Tryz.func131, Tryz.ntmps131
  go_wp2_with fail
  go_ret
  exact ⟨rfl, Keeps.alloc [] w _⟩
 ·have n4 : (k == 4) = false := beq_false_of_ne h4
  by_cases h5 : k = 5
  ·subst h5
   go_enter Tryz.func131, Tryz.ntmps131
   go_wp2_with fail
   go_ret
   exact ⟨rfl, Keeps.alloc [] w _⟩
  ·have n5 : (k == 5) = false := beq_false_of_ne h5
   rw [n4, n5]
   clear h4 h5
   go_enter Tryz.func131, Tryz.ntmps131
   go_wp2_with fail
   go_ret
   exact ⟨rfl, Keeps.alloc [] w _⟩
end Go.Proofs.YtkfillfkbhbbjaaGreatDoor
namespace Go.Proofs.YtkfillfkbhbbjaaGreatDoor
open Go.RowKit

abbrev nodC (kd : Int) (tx : ByteArray) (nm : Nat) (kv : Value) (re im : Nat) : Obj := .cells #[.int .i64 kd, .string tx, .float .f64 nm, kv, .complex .f64 re im] 50

/-- A node laid cell by cell. -/
theorem nod5 (W : World) (b : Nat) (kd : Int) (tx : ByteArray) (nm : Nat) (kv : Value) (re im : Nat) : Keeps [b] W (((((W.setCell ⟨b, 0, none⟩ (.int .i64 kd)).setCell ⟨b, 1, none⟩ (.string tx)).setCell ⟨b, 2, none⟩ (.float .f64 nm)).setCell ⟨b, 3, none⟩ kv).setCell ⟨b, 4, none⟩ (.complex .f64 re im)) :=
 ((((Keeps.setCell [b] W _ _ (by simp)).trans (Keeps.setCell [b] _ _ _ (by simp)) (by simp)).trans (Keeps.setCell [b] _ _ _ (by simp)) (by simp)).trans (Keeps.setCell [b] _ _ _ (by simp)) (by simp)).trans (Keeps.setCell [b] _ _ _ (by simp)) (by simp)

/-- What a function of the parser does that hands back the node n. -/
def Hands (s : ByteArray) (p : Nat) (st st' : PSt) (n : Node) (f : FuncId) : Prop :=
 ∀ w, PP s p st w → Calls Tryz.prog f #[.pointer (some ⟨p, 0, none⟩)] w fun r w' => ∃ v, r = .returned v ∧ NodeR w' (fun g => w.heap.size ≤ g) n v ∧ PP s p st' w' ∧ Keeps [p] w w'

theorem one_none {s : ByteArray} {p : Nat} {st : PSt} {w : World} (h : PP s p st w) {sg : ByteArray} (hx : noneF s st sg = some ()) (hsg : sg.size ≤ 1000000) :
  Calls Tryz.prog 132 #[.pointer (some ⟨p, 0, none⟩), .string sg] w fun r w' => r = .returned (.tuple #[.string ⟨#[]⟩, .complex .f64 0 0, .bool false]) ∧ Keeps [] w w' := by
 unfold noneF oneF at hx
 cases ht : nextF s st.pos false with
 | none => rw [ht] at hx; simp at hx
 | some t =>
  rw [ht] at hx
  simp only [Option.bind_eq_bind, Option.bind_some] at hx
  by_cases h9 : t.kind = 9
  ·cases ha : among sg t.text
   ·exact one_no2 h ht sg hsg h9 ha
   ·rw [show (t.kind == 9) = true from by simp [h9], ha] at hx
    simp at hx
  ·exact one_no1 h ht sg hsg h9

theorem power_lv {s : ByteArray} {p : Nat} {st st' : PSt} {n : Node} (hsub : Hands s p st st' n 290) (hno : noneF s st' ⟨#[94]⟩ = some ()) : Hands s p st st' n 288 := by
 intro w h
 have hlt := h_lt h.row
 have H := zh h; have HS := zh hsub; have HN := zh hno
 clear h hsub hno
 go_enter Tryz.func288, Tryz.ntmps288
 go_wp2_with fail
 refine (HS.out _ (H.out.keep (Keeps.alloc [] w (nodC 0 ⟨#[]⟩ 0 (.slice none 0 0) 0 0)))).mono ?_
 rintro r w1 ⟨v, rfl, hn', hp1, hk1⟩
 have hn : NodeR w1 (fun g => w.heap.size < g) n v := hn'.keep (Keeps.refl [] w1) (by simp) (fun x hx => by have h2 := hx; simp at h2; omega)
 clear hn'
 have hq1 := hk1.at (h_new w (nodC 0 ⟨#[]⟩ 0 (.slice none 0 0) 0 0)) (by simp; omega)
 have hkw : Keeps [p] w w1 := (Keeps.alloc [p] w _).trans hk1 (fun _ h => .inl h)
 have hsz : w.heap.size < w1.heap.size := by have := hk1.size; simp at this; omega
 have h14 := hp1.p
 obtain ⟨tx, nm, a, l, cap, re, im, rfl, -, -⟩ := hn.shape
 generalize hkd : n.kind = kd at *
 have hka := Keeps.alloc [] w1 (nodC kd tx nm (.slice a l cap) re im)
 have HN1 := zh (hn.keep0 hka); have HP1 := zh (hp1.keep hka); have HK1 := zh (hkw.trans hka (by simp))
 have HQ1 := zh (hka.at hq1 (by simp)); have HB1 := zh (h_new w1 (nodC kd tx nm (.slice a l cap) re im))
 clear hn hp1 hkw hk1 hq1 hka
 go_wp2_with fail
 generalize w1.alloc (nodC kd tx nm (.slice a l cap) re im) = w2 at *
 refine (one_none HP1.out HN.out (by decide)).mono ?_
 rintro r w3 ⟨rfl, hk3⟩
 have hb3 := hk3.at HB1.out (by simp)
 have hq3 := hk3.at HQ1.out (by simp)
 have HN3 := zh (HN1.out.keep0 hk3); have HP3 := zh (HP1.out.keep hk3); have HK3 := zh (HK1.out.trans hk3 (by simp))
 have hl3 : w.heap.size < w3.heap.size := h_lt hq3
 have hl4 : w1.heap.size < w3.heap.size := h_lt hb3
 have x0 := cell_of_heap hb3 0
 have x1 := cell_of_heap hb3 1
 have x2 := cell_of_heap hb3 2
 have x3 := cell_of_heap hb3 3
 have x4 := cell_of_heap hb3 4
 have q0 := cell_of_heap hq3 0
 have q1 := cell_of_heap hq3 1
 have q2 := cell_of_heap hq3 2
 have q3 := cell_of_heap hq3 3
 have q4 := cell_of_heap hq3 4
 have qf0 := frozen_of_heap hq3 0
 have qf1 := frozen_of_heap hq3 1
 have qf2 := frozen_of_heap hq3 2
 have qf3 := frozen_of_heap hq3 3
 have qf4 := frozen_of_heap hq3 4
 simp at x0 x1 x2 x3 x4 q0 q1 q2 q3 q4
 have n5 : w.heap.size ≠ w1.heap.size := Nat.ne_of_lt hsz
 have n6 : w1.heap.size ≠ w.heap.size := Nat.ne_of_gt hsz
 clear hk3 hb3 hq3
 go_wp2_with fail
 have t5 := nod5 w3 w.heap.size kd tx nm (.slice a l cap) re im
 refine bodyPost_ret (v := .agg #[.int .i64 kd, .string tx, .float .f64 nm, .slice a l cap, .complex .f64 re im]) (by simp [results, Tryz.results288, go_sem, q0, q1, q2, q3, q4]) rfl ⟨_, rfl, ?_, ?_, ?_⟩
 ·exact HN3.out.keep t5 (by simp) (fun x hx => Nat.le_of_lt hx)
 ·exact HP3.out.keepN t5 (by simp; omega) (by simp; omega)
 ·exact HK3.out.trans t5 (by simp)

theorem cond_lv {s : ByteArray} {p : Nat} {st st' : PSt} {n : Node} (hsub : Hands s p st st' n 170) (hno : noneF s st' ⟨#[63]⟩ = some ()) : Hands s p st st' n 130 := by
 intro w h
 have hlt := h_lt h.row
 have H := zh h; have HS := zh hsub; have HN := zh hno
 clear h hsub hno
 go_enter Tryz.func130, Tryz.ntmps130
 go_wp2_with fail
 refine (HS.out _ (H.out.keep (Keeps.alloc [] w (nodC 0 ⟨#[]⟩ 0 (.slice none 0 0) 0 0)))).mono ?_
 rintro r w1 ⟨v, rfl, hn', hp1, hk1⟩
 have hn : NodeR w1 (fun g => w.heap.size < g) n v := hn'.keep (Keeps.refl [] w1) (by simp) (fun x hx => by have h2 := hx; simp at h2; omega)
 clear hn'
 have hq1 := hk1.at (h_new w (nodC 0 ⟨#[]⟩ 0 (.slice none 0 0) 0 0)) (by simp; omega)
 have hkw : Keeps [p] w w1 := (Keeps.alloc [p] w _).trans hk1 (fun _ h => .inl h)
 have hsz : w.heap.size < w1.heap.size := by have := hk1.size; simp at this; omega
 have h14 := hp1.p
 obtain ⟨tx, nm, a, l, cap, re, im, rfl, -, -⟩ := hn.shape
 generalize hkd : n.kind = kd at *
 have hka := Keeps.alloc [] w1 (nodC kd tx nm (.slice a l cap) re im)
 have HN1 := zh (hn.keep0 hka); have HP1 := zh (hp1.keep hka); have HK1 := zh (hkw.trans hka (by simp))
 have HQ1 := zh (hka.at hq1 (by simp)); have HB1 := zh (h_new w1 (nodC kd tx nm (.slice a l cap) re im))
 clear hn hp1 hkw hk1 hq1 hka
 go_wp2_with fail
 generalize w1.alloc (nodC kd tx nm (.slice a l cap) re im) = w2 at *
 refine (one_none HP1.out HN.out (by decide)).mono ?_
 rintro r w3 ⟨rfl, hk3⟩
 have hb3 := hk3.at HB1.out (by simp)
 have hq3 := hk3.at HQ1.out (by simp)
 have HN3 := zh (HN1.out.keep0 hk3); have HP3 := zh (HP1.out.keep hk3); have HK3 := zh (HK1.out.trans hk3 (by simp))
 have hl3 : w.heap.size < w3.heap.size := h_lt hq3
 have hl4 : w1.heap.size < w3.heap.size := h_lt hb3
 have x0 := cell_of_heap hb3 0
 have x1 := cell_of_heap hb3 1
 have x2 := cell_of_heap hb3 2
 have x3 := cell_of_heap hb3 3
 have x4 := cell_of_heap hb3 4
 have q0 := cell_of_heap hq3 0
 have q1 := cell_of_heap hq3 1
 have q2 := cell_of_heap hq3 2
 have q3 := cell_of_heap hq3 3
 have q4 := cell_of_heap hq3 4
 have qf0 := frozen_of_heap hq3 0
 have qf1 := frozen_of_heap hq3 1
 have qf2 := frozen_of_heap hq3 2
 have qf3 := frozen_of_heap hq3 3
 have qf4 := frozen_of_heap hq3 4
 simp at x0 x1 x2 x3 x4 q0 q1 q2 q3 q4
 have n5 : w.heap.size ≠ w1.heap.size := Nat.ne_of_lt hsz
 have n6 : w1.heap.size ≠ w.heap.size := Nat.ne_of_gt hsz
 clear hk3 hb3 hq3
 go_wp2_with fail
 have t5 := nod5 w3 w.heap.size kd tx nm (.slice a l cap) re im
 refine bodyPost_ret (v := .agg #[.int .i64 kd, .string tx, .float .f64 nm, .slice a l cap, .complex .f64 re im]) (by simp [results, Tryz.results130, go_sem, q0, q1, q2, q3, q4]) rfl ⟨_, rfl, ?_, ?_, ?_⟩
 ·exact HN3.out.keep t5 (by simp) (fun x hx => Nat.le_of_lt hx)
 ·exact HP3.out.keepN t5 (by simp; omega) (by simp; omega)
 ·exact HK3.out.trans t5 (by simp)

theorem product_lv {s : ByteArray} {p : Nat} {st st' : PSt} {n : Node} (hsub : Hands s p st st' n 286) (hno : noneF s st' ⟨#[42, 32, 47, 32, 37]⟩ = some ()) : Hands s p st st' n 281 := by
 intro w h
 have hlt := h_lt h.row
 have H := zh h; have HS := zh hsub; have HN := zh hno
 clear h hsub hno
 go_enter Tryz.func281, Tryz.ntmps281
 go_wp2_with fail
 refine (HS.out _ (H.out.keep (Keeps.alloc [] w (nodC 0 ⟨#[]⟩ 0 (.slice none 0 0) 0 0)))).mono ?_
 rintro r w1 ⟨v, rfl, hn', hp1, hk1⟩
 have hn : NodeR w1 (fun g => w.heap.size < g) n v := hn'.keep (Keeps.refl [] w1) (by simp) (fun x hx => by have h2 := hx; simp at h2; omega)
 clear hn'
 have hq1 := hk1.at (h_new w (nodC 0 ⟨#[]⟩ 0 (.slice none 0 0) 0 0)) (by simp; omega)
 have hkw : Keeps [p] w w1 := (Keeps.alloc [p] w _).trans hk1 (fun _ h => .inl h)
 have hsz : w.heap.size < w1.heap.size := by have := hk1.size; simp at this; omega
 have h14 := hp1.p
 obtain ⟨tx, nm, a, l, cap, re, im, rfl, -, -⟩ := hn.shape
 generalize hkd : n.kind = kd at *
 have hka := Keeps.alloc [] w1 (nodC kd tx nm (.slice a l cap) re im)
 have HN1 := zh (hn.keep0 hka); have HP1 := zh (hp1.keep hka); have HK1 := zh (hkw.trans hka (by simp))
 have HQ1 := zh (hka.at hq1 (by simp)); have HB1 := zh (h_new w1 (nodC kd tx nm (.slice a l cap) re im))
 clear hn hp1 hkw hk1 hq1 hka
 go_wp2_with fail
 refine wp_loop_rounds 1 ?_
 rw [rounds_succ]
 go_wp2_with fail
 generalize w1.alloc (nodC kd tx nm (.slice a l cap) re im) = w2 at *
 refine (one_none HP1.out HN.out (by decide)).mono ?_
 rintro r w3 ⟨rfl, hk3⟩
 have hb3 := hk3.at HB1.out (by simp)
 have hq3 := hk3.at HQ1.out (by simp)
 have HN3 := zh (HN1.out.keep0 hk3); have HP3 := zh (HP1.out.keep hk3); have HK3 := zh (HK1.out.trans hk3 (by simp))
 have hl3 : w.heap.size < w3.heap.size := h_lt hq3
 have hl4 : w1.heap.size < w3.heap.size := h_lt hb3
 have x0 := cell_of_heap hb3 0
 have x1 := cell_of_heap hb3 1
 have x2 := cell_of_heap hb3 2
 have x3 := cell_of_heap hb3 3
 have x4 := cell_of_heap hb3 4
 have q0 := cell_of_heap hq3 0
 have q1 := cell_of_heap hq3 1
 have q2 := cell_of_heap hq3 2
 have q3 := cell_of_heap hq3 3
 have q4 := cell_of_heap hq3 4
 have qf0 := frozen_of_heap hq3 0
 have qf1 := frozen_of_heap hq3 1
 have qf2 := frozen_of_heap hq3 2
 have qf3 := frozen_of_heap hq3 3
 have qf4 := frozen_of_heap hq3 4
 simp at x0 x1 x2 x3 x4 q0 q1 q2 q3 q4
 have n5 : w.heap.size ≠ w1.heap.size := Nat.ne_of_lt hsz
 have n6 : w1.heap.size ≠ w.heap.size := Nat.ne_of_gt hsz
 clear hk3 hb3 hq3
 go_wp2_with fail
 have t5 := nod5 w3 w.heap.size kd tx nm (.slice a l cap) re im
 refine bodyPost_ret (v := .agg #[.int .i64 kd, .string tx, .float .f64 nm, .slice a l cap, .complex .f64 re im]) (by simp [results, Tryz.results281, go_sem, q0, q1, q2, q3, q4]) rfl ⟨_, rfl, ?_, ?_, ?_⟩
 ·exact HN3.out.keep t5 (by simp) (fun x hx => Nat.le_of_lt hx)
 ·exact HP3.out.keepN t5 (by simp; omega) (by simp; omega)
 ·exact HK3.out.trans t5 (by simp)

theorem or_lv {s : ByteArray} {p : Nat} {st st' : PSt} {n : Node} (hsub : Hands s p st st' n 193) (hno : noneF s st' ⟨#[124, 124]⟩ = some ()) : Hands s p st st' n 170 := by
 intro w h
 have hlt := h_lt h.row
 have H := zh h; have HS := zh hsub; have HN := zh hno
 clear h hsub hno
 go_enter Tryz.func170, Tryz.ntmps170
 go_wp2_with fail
 refine (HS.out _ (H.out.keep (Keeps.alloc [] w (nodC 0 ⟨#[]⟩ 0 (.slice none 0 0) 0 0)))).mono ?_
 rintro r w1 ⟨v, rfl, hn', hp1, hk1⟩
 have hn : NodeR w1 (fun g => w.heap.size < g) n v := hn'.keep (Keeps.refl [] w1) (by simp) (fun x hx => by have h2 := hx; simp at h2; omega)
 clear hn'
 have hq1 := hk1.at (h_new w (nodC 0 ⟨#[]⟩ 0 (.slice none 0 0) 0 0)) (by simp; omega)
 have hkw : Keeps [p] w w1 := (Keeps.alloc [p] w _).trans hk1 (fun _ h => .inl h)
 have hsz : w.heap.size < w1.heap.size := by have := hk1.size; simp at this; omega
 have h14 := hp1.p
 obtain ⟨tx, nm, a, l, cap, re, im, rfl, -, -⟩ := hn.shape
 generalize hkd : n.kind = kd at *
 have hka := Keeps.alloc [] w1 (nodC kd tx nm (.slice a l cap) re im)
 have HN1 := zh (hn.keep0 hka); have HP1 := zh (hp1.keep hka); have HK1 := zh (hkw.trans hka (by simp))
 have HQ1 := zh (hka.at hq1 (by simp)); have HB1 := zh (h_new w1 (nodC kd tx nm (.slice a l cap) re im))
 clear hn hp1 hkw hk1 hq1 hka
 go_wp2_with fail
 refine wp_loop_rounds 1 ?_
 rw [rounds_succ]
 go_wp2_with fail
 generalize w1.alloc (nodC kd tx nm (.slice a l cap) re im) = w2 at *
 refine (one_none HP1.out HN.out (by decide)).mono ?_
 rintro r w3 ⟨rfl, hk3⟩
 have hb3 := hk3.at HB1.out (by simp)
 have hq3 := hk3.at HQ1.out (by simp)
 have HN3 := zh (HN1.out.keep0 hk3); have HP3 := zh (HP1.out.keep hk3); have HK3 := zh (HK1.out.trans hk3 (by simp))
 have hl3 : w.heap.size < w3.heap.size := h_lt hq3
 have hl4 : w1.heap.size < w3.heap.size := h_lt hb3
 have x0 := cell_of_heap hb3 0
 have x1 := cell_of_heap hb3 1
 have x2 := cell_of_heap hb3 2
 have x3 := cell_of_heap hb3 3
 have x4 := cell_of_heap hb3 4
 have q0 := cell_of_heap hq3 0
 have q1 := cell_of_heap hq3 1
 have q2 := cell_of_heap hq3 2
 have q3 := cell_of_heap hq3 3
 have q4 := cell_of_heap hq3 4
 have qf0 := frozen_of_heap hq3 0
 have qf1 := frozen_of_heap hq3 1
 have qf2 := frozen_of_heap hq3 2
 have qf3 := frozen_of_heap hq3 3
 have qf4 := frozen_of_heap hq3 4
 simp at x0 x1 x2 x3 x4 q0 q1 q2 q3 q4
 have n5 : w.heap.size ≠ w1.heap.size := Nat.ne_of_lt hsz
 have n6 : w1.heap.size ≠ w.heap.size := Nat.ne_of_gt hsz
 clear hk3 hb3 hq3
 go_wp2_with fail
 have t5 := nod5 w3 w.heap.size kd tx nm (.slice a l cap) re im
 refine bodyPost_ret (v := .agg #[.int .i64 kd, .string tx, .float .f64 nm, .slice a l cap, .complex .f64 re im]) (by simp [results, Tryz.results170, go_sem, q0, q1, q2, q3, q4]) rfl ⟨_, rfl, ?_, ?_, ?_⟩
 ·exact HN3.out.keep t5 (by simp) (fun x hx => Nat.le_of_lt hx)
 ·exact HP3.out.keepN t5 (by simp; omega) (by simp; omega)
 ·exact HK3.out.trans t5 (by simp)

theorem and_lv {s : ByteArray} {p : Nat} {st st' : PSt} {n : Node} (hsub : Hands s p st st' n 226) (hno : noneF s st' ⟨#[38, 38]⟩ = some ()) : Hands s p st st' n 193 := by
 intro w h
 have hlt := h_lt h.row
 have H := zh h; have HS := zh hsub; have HN := zh hno
 clear h hsub hno
 go_enter Tryz.func193, Tryz.ntmps193
 go_wp2_with fail
 refine (HS.out _ (H.out.keep (Keeps.alloc [] w (nodC 0 ⟨#[]⟩ 0 (.slice none 0 0) 0 0)))).mono ?_
 rintro r w1 ⟨v, rfl, hn', hp1, hk1⟩
 have hn : NodeR w1 (fun g => w.heap.size < g) n v := hn'.keep (Keeps.refl [] w1) (by simp) (fun x hx => by have h2 := hx; simp at h2; omega)
 clear hn'
 have hq1 := hk1.at (h_new w (nodC 0 ⟨#[]⟩ 0 (.slice none 0 0) 0 0)) (by simp; omega)
 have hkw : Keeps [p] w w1 := (Keeps.alloc [p] w _).trans hk1 (fun _ h => .inl h)
 have hsz : w.heap.size < w1.heap.size := by have := hk1.size; simp at this; omega
 have h14 := hp1.p
 obtain ⟨tx, nm, a, l, cap, re, im, rfl, -, -⟩ := hn.shape
 generalize hkd : n.kind = kd at *
 have hka := Keeps.alloc [] w1 (nodC kd tx nm (.slice a l cap) re im)
 have HN1 := zh (hn.keep0 hka); have HP1 := zh (hp1.keep hka); have HK1 := zh (hkw.trans hka (by simp))
 have HQ1 := zh (hka.at hq1 (by simp)); have HB1 := zh (h_new w1 (nodC kd tx nm (.slice a l cap) re im))
 clear hn hp1 hkw hk1 hq1 hka
 go_wp2_with fail
 refine wp_loop_rounds 1 ?_
 rw [rounds_succ]
 go_wp2_with fail
 generalize w1.alloc (nodC kd tx nm (.slice a l cap) re im) = w2 at *
 refine (one_none HP1.out HN.out (by decide)).mono ?_
 rintro r w3 ⟨rfl, hk3⟩
 have hb3 := hk3.at HB1.out (by simp)
 have hq3 := hk3.at HQ1.out (by simp)
 have HN3 := zh (HN1.out.keep0 hk3); have HP3 := zh (HP1.out.keep hk3); have HK3 := zh (HK1.out.trans hk3 (by simp))
 have hl3 : w.heap.size < w3.heap.size := h_lt hq3
 have hl4 : w1.heap.size < w3.heap.size := h_lt hb3
 have x0 := cell_of_heap hb3 0
 have x1 := cell_of_heap hb3 1
 have x2 := cell_of_heap hb3 2
 have x3 := cell_of_heap hb3 3
 have x4 := cell_of_heap hb3 4
 have q0 := cell_of_heap hq3 0
 have q1 := cell_of_heap hq3 1
 have q2 := cell_of_heap hq3 2
 have q3 := cell_of_heap hq3 3
 have q4 := cell_of_heap hq3 4
 have qf0 := frozen_of_heap hq3 0
 have qf1 := frozen_of_heap hq3 1
 have qf2 := frozen_of_heap hq3 2
 have qf3 := frozen_of_heap hq3 3
 have qf4 := frozen_of_heap hq3 4
 simp at x0 x1 x2 x3 x4 q0 q1 q2 q3 q4
 have n5 : w.heap.size ≠ w1.heap.size := Nat.ne_of_lt hsz
 have n6 : w1.heap.size ≠ w.heap.size := Nat.ne_of_gt hsz
 clear hk3 hb3 hq3
 go_wp2_with fail
 have t5 := nod5 w3 w.heap.size kd tx nm (.slice a l cap) re im
 refine bodyPost_ret (v := .agg #[.int .i64 kd, .string tx, .float .f64 nm, .slice a l cap, .complex .f64 re im]) (by simp [results, Tryz.results193, go_sem, q0, q1, q2, q3, q4]) rfl ⟨_, rfl, ?_, ?_, ?_⟩
 ·exact HN3.out.keep t5 (by simp) (fun x hx => Nat.le_of_lt hx)
 ·exact HP3.out.keepN t5 (by simp; omega) (by simp; omega)
 ·exact HK3.out.trans t5 (by simp)

theorem match_lv {s : ByteArray} {p : Nat} {st st' : PSt} {n : Node} (hsub : Hands s p st st' n 266) (hno : noneF s st' ⟨#[126, 32, 33, 126]⟩ = some ()) : Hands s p st st' n 256 := by
 intro w h
 have hlt := h_lt h.row
 have H := zh h; have HS := zh hsub; have HN := zh hno
 clear h hsub hno
 go_enter Tryz.func256, Tryz.ntmps256
 go_wp2_with fail
 refine (HS.out _ (H.out.keep (Keeps.alloc [] w (nodC 0 ⟨#[]⟩ 0 (.slice none 0 0) 0 0)))).mono ?_
 rintro r w1 ⟨v, rfl, hn', hp1, hk1⟩
 have hn : NodeR w1 (fun g => w.heap.size < g) n v := hn'.keep (Keeps.refl [] w1) (by simp) (fun x hx => by have h2 := hx; simp at h2; omega)
 clear hn'
 have hq1 := hk1.at (h_new w (nodC 0 ⟨#[]⟩ 0 (.slice none 0 0) 0 0)) (by simp; omega)
 have hkw : Keeps [p] w w1 := (Keeps.alloc [p] w _).trans hk1 (fun _ h => .inl h)
 have hsz : w.heap.size < w1.heap.size := by have := hk1.size; simp at this; omega
 have h14 := hp1.p
 obtain ⟨tx, nm, a, l, cap, re, im, rfl, -, -⟩ := hn.shape
 generalize hkd : n.kind = kd at *
 have hka := Keeps.alloc [] w1 (nodC kd tx nm (.slice a l cap) re im)
 have HN1 := zh (hn.keep0 hka); have HP1 := zh (hp1.keep hka); have HK1 := zh (hkw.trans hka (by simp))
 have HQ1 := zh (hka.at hq1 (by simp)); have HB1 := zh (h_new w1 (nodC kd tx nm (.slice a l cap) re im))
 clear hn hp1 hkw hk1 hq1 hka
 go_wp2_with fail
 refine wp_loop_rounds 1 ?_
 rw [rounds_succ]
 go_wp2_with fail
 generalize w1.alloc (nodC kd tx nm (.slice a l cap) re im) = w2 at *
 refine (one_none HP1.out HN.out (by decide)).mono ?_
 rintro r w3 ⟨rfl, hk3⟩
 have hb3 := hk3.at HB1.out (by simp)
 have hq3 := hk3.at HQ1.out (by simp)
 have HN3 := zh (HN1.out.keep0 hk3); have HP3 := zh (HP1.out.keep hk3); have HK3 := zh (HK1.out.trans hk3 (by simp))
 have hl3 : w.heap.size < w3.heap.size := h_lt hq3
 have hl4 : w1.heap.size < w3.heap.size := h_lt hb3
 have x0 := cell_of_heap hb3 0
 have x1 := cell_of_heap hb3 1
 have x2 := cell_of_heap hb3 2
 have x3 := cell_of_heap hb3 3
 have x4 := cell_of_heap hb3 4
 have q0 := cell_of_heap hq3 0
 have q1 := cell_of_heap hq3 1
 have q2 := cell_of_heap hq3 2
 have q3 := cell_of_heap hq3 3
 have q4 := cell_of_heap hq3 4
 have qf0 := frozen_of_heap hq3 0
 have qf1 := frozen_of_heap hq3 1
 have qf2 := frozen_of_heap hq3 2
 have qf3 := frozen_of_heap hq3 3
 have qf4 := frozen_of_heap hq3 4
 simp at x0 x1 x2 x3 x4 q0 q1 q2 q3 q4
 have n5 : w.heap.size ≠ w1.heap.size := Nat.ne_of_lt hsz
 have n6 : w1.heap.size ≠ w.heap.size := Nat.ne_of_gt hsz
 clear hk3 hb3 hq3
 go_wp2_with fail
 have t5 := nod5 w3 w.heap.size kd tx nm (.slice a l cap) re im
 refine bodyPost_ret (v := .agg #[.int .i64 kd, .string tx, .float .f64 nm, .slice a l cap, .complex .f64 re im]) (by simp [results, Tryz.results256, go_sem, q0, q1, q2, q3, q4]) rfl ⟨_, rfl, ?_, ?_, ?_⟩
 ·exact HN3.out.keep t5 (by simp) (fun x hx => Nat.le_of_lt hx)
 ·exact HP3.out.keepN t5 (by simp; omega) (by simp; omega)
 ·exact HK3.out.trans t5 (by simp)
end Go.Proofs.YtkfillfkbhbbjaaGreatDoor
namespace Go.Proofs.YtkfillfkbhbbjaaGreatDoor
open Go.RowKit

theorem is_not {s : ByteArray} {p : Nat} {st : PSt} {w : World} (h : PP s p st w) {x : ByteArray} (hx : notF s st x = some ()) :
  Calls Tryz.prog 64 #[.pointer (some ⟨p, 0, none⟩), .string x] w fun r w' => r = .returned (.bool false) ∧ Keeps [] w w' := by
 unfold notF isF at hx
 cases ht : nextF s st.pos false with
 | none => rw [ht] at hx; simp at hx
 | some t =>
  rw [ht] at hx
  simp only [Option.bind_eq_bind, Option.bind_some] at hx
  have hi := is_any h ht x
  cases hb : isT t x
  ·rw [hb] at hi; exact hi
  ·rw [hb] at hx; simp at hx

theorem unary_lv {s : ByteArray} {p : Nat} {st st' : PSt} {n : Node} (h0 : noneF s st ⟨#[33, 32, 45, 32, 43]⟩ = some ()) (hsub : Hands s p st st' n 288) : Hands s p st st' n 286 := by
 intro w h
 have hlt := h_lt h.row
 have h14 := h.p
 have HP0 := zh (h.keep (Keeps.alloc [] w (nodC 0 ⟨#[]⟩ 0 (.slice none 0 0) 0 0))); have HQ0 := zh (h_new w (nodC 0 ⟨#[]⟩ 0 (.slice none 0 0) 0 0)); have HK0 := zh (Keeps.alloc [] w (nodC 0 ⟨#[]⟩ 0 (.slice none 0 0) 0 0))
 have HS := zh hsub; have HH0 := zh h0
 clear h hsub h0
 go_enter Tryz.func286, Tryz.ntmps286
 go_wp2_with fail
 generalize w.alloc (nodC 0 ⟨#[]⟩ 0 (.slice none 0 0) 0 0) = w0 at *
 refine (one_none HP0.out HH0.out (by decide)).mono ?_
 rintro r w1 ⟨rfl, hk1⟩
 have HP1 := zh (HP0.out.keep hk1); have HQ1 := zh (hk1.at HQ0.out (by simp)); have HK1 := zh (HK0.out.trans hk1 (by simp))
 clear hk1
 go_wp2_with fail
 refine (HS.out _ HP1.out).mono ?_
 rintro r w9 ⟨v, rfl, hn', hp9, hk9⟩
 have hsz : w.heap.size < w1.heap.size := h_lt HQ1.out
 have hn : NodeR w9 (fun g => w.heap.size < g) n v := hn'.keep (Keeps.refl [] w9) (by simp) (fun x hx => Nat.lt_of_lt_of_le hsz hx)
 have hq3 := hk9.at HQ1.out (by simp; omega)
 obtain ⟨tx, nm, a, l, cap, re, im, rfl, -, -⟩ := hn.shape
 generalize hkd : n.kind = kd at *
 have HN3 := zh hn; have HP3 := zh hp9; have HK3 := zh ((HK1.out.weaken (fp' := [p]) (by simp)).trans hk9 (by simp))
 have hl3 : w.heap.size < w9.heap.size := h_lt hq3
 have q0 := cell_of_heap hq3 0
 have q1 := cell_of_heap hq3 1
 have q2 := cell_of_heap hq3 2
 have q3 := cell_of_heap hq3 3
 have q4 := cell_of_heap hq3 4
 have qf0 := frozen_of_heap hq3 0
 have qf1 := frozen_of_heap hq3 1
 have qf2 := frozen_of_heap hq3 2
 have qf3 := frozen_of_heap hq3 3
 have qf4 := frozen_of_heap hq3 4
 simp at q0 q1 q2 q3 q4
 clear hn hn' hp9 hk9 hq3
 go_wp2_with fail
 have t5 := nod5 w9 w.heap.size kd tx nm (.slice a l cap) re im
 refine bodyPost_ret (v := .agg #[.int .i64 kd, .string tx, .float .f64 nm, .slice a l cap, .complex .f64 re im]) (by simp [results, Tryz.results286, go_sem, q0, q1, q2, q3, q4]) rfl ⟨_, rfl, ?_, ?_, ?_⟩
 ·exact HN3.out.keep t5 (by simp) (fun x hx => Nat.le_of_lt hx)
 ·exact HP3.out.keepN t5 (by simp; omega) (by simp; omega)
 ·exact HK3.out.trans t5 (by simp)

theorem primary_lv {s : ByteArray} {p : Nat} {st st' : PSt} {n : Node} (h0 : noneF s st ⟨#[43, 43, 32, 45, 45]⟩ = some ()) (h1 : notF s st ⟨#[40]⟩ = some ()) (hsub : Hands s p st st' n 294) : Hands s p st st' n 292 := by
 intro w h
 have hlt := h_lt h.row
 have h14 := h.p
 have HP0 := zh (h.keep (Keeps.alloc [] w (nodC 0 ⟨#[]⟩ 0 (.slice none 0 0) 0 0))); have HQ0 := zh (h_new w (nodC 0 ⟨#[]⟩ 0 (.slice none 0 0) 0 0)); have HK0 := zh (Keeps.alloc [] w (nodC 0 ⟨#[]⟩ 0 (.slice none 0 0) 0 0))
 have HS := zh hsub; have HH0 := zh h0; have HH1 := zh h1
 clear h hsub h0 h1
 go_enter Tryz.func292, Tryz.ntmps292
 go_wp2_with fail
 generalize w.alloc (nodC 0 ⟨#[]⟩ 0 (.slice none 0 0) 0 0) = w0 at *
 refine (ok_any HP0.out).mono ?_
 rintro r w' ⟨rfl, hw'⟩
 rw [hw']
 clear hw'
 go_wp2_with fail
 refine (one_none HP0.out HH0.out (by decide)).mono ?_
 rintro r w1 ⟨rfl, hk1⟩
 have HP1 := zh (HP0.out.keep hk1); have HQ1 := zh (hk1.at HQ0.out (by simp)); have HK1 := zh (HK0.out.trans hk1 (by simp))
 clear hk1
 go_wp2_with fail
 refine (is_not HP1.out HH1.out).mono ?_
 rintro r w2 ⟨rfl, hk2⟩
 have HP2 := zh (HP1.out.keep hk2); have HQ2 := zh (hk2.at HQ1.out (by simp)); have HK2 := zh (HK1.out.trans hk2 (by simp))
 clear hk2
 go_wp2_with fail
 refine (HS.out _ HP2.out).mono ?_
 rintro r w9 ⟨v, rfl, hn', hp9, hk9⟩
 have hsz : w.heap.size < w2.heap.size := h_lt HQ2.out
 have hn : NodeR w9 (fun g => w.heap.size < g) n v := hn'.keep (Keeps.refl [] w9) (by simp) (fun x hx => Nat.lt_of_lt_of_le hsz hx)
 have hq3 := hk9.at HQ2.out (by simp; omega)
 obtain ⟨tx, nm, a, l, cap, re, im, rfl, -, -⟩ := hn.shape
 generalize hkd : n.kind = kd at *
 have HN3 := zh hn; have HP3 := zh hp9; have HK3 := zh ((HK2.out.weaken (fp' := [p]) (by simp)).trans hk9 (by simp))
 have hl3 : w.heap.size < w9.heap.size := h_lt hq3
 have q0 := cell_of_heap hq3 0
 have q1 := cell_of_heap hq3 1
 have q2 := cell_of_heap hq3 2
 have q3 := cell_of_heap hq3 3
 have q4 := cell_of_heap hq3 4
 have qf0 := frozen_of_heap hq3 0
 have qf1 := frozen_of_heap hq3 1
 have qf2 := frozen_of_heap hq3 2
 have qf3 := frozen_of_heap hq3 3
 have qf4 := frozen_of_heap hq3 4
 simp at q0 q1 q2 q3 q4
 clear hn hn' hp9 hk9 hq3
 go_wp2_with fail
 have t5 := nod5 w9 w.heap.size kd tx nm (.slice a l cap) re im
 refine bodyPost_ret (v := .agg #[.int .i64 kd, .string tx, .float .f64 nm, .slice a l cap, .complex .f64 re im]) (by simp [results, Tryz.results292, go_sem, q0, q1, q2, q3, q4]) rfl ⟨_, rfl, ?_, ?_, ?_⟩
 ·exact HN3.out.keep t5 (by simp) (fun x hx => Nat.le_of_lt hx)
 ·exact HP3.out.keepN t5 (by simp; omega) (by simp; omega)
 ·exact HK3.out.trans t5 (by simp)

theorem dollar_lv {s : ByteArray} {p : Nat} {st st' : PSt} {n : Node} (h0 : noneF s st ⟨#[43, 43, 32, 45, 45]⟩ = some ()) (h1 : notF s st ⟨#[40]⟩ = some ()) (hsub : Hands s p st st' n 294) : Hands s p st st' n 296 := by
 intro w h
 have hlt := h_lt h.row
 have h14 := h.p
 have HP0 := zh (h.keep (Keeps.alloc [] w (nodC 0 ⟨#[]⟩ 0 (.slice none 0 0) 0 0))); have HQ0 := zh (h_new w (nodC 0 ⟨#[]⟩ 0 (.slice none 0 0) 0 0)); have HK0 := zh (Keeps.alloc [] w (nodC 0 ⟨#[]⟩ 0 (.slice none 0 0) 0 0))
 have HS := zh hsub; have HH0 := zh h0; have HH1 := zh h1
 clear h hsub h0 h1
 go_enter Tryz.func296, Tryz.ntmps296
 go_wp2_with fail
 generalize w.alloc (nodC 0 ⟨#[]⟩ 0 (.slice none 0 0) 0 0) = w0 at *
 refine (one_none HP0.out HH0.out (by decide)).mono ?_
 rintro r w1 ⟨rfl, hk1⟩
 have HP1 := zh (HP0.out.keep hk1); have HQ1 := zh (hk1.at HQ0.out (by simp)); have HK1 := zh (HK0.out.trans hk1 (by simp))
 clear hk1
 go_wp2_with fail
 refine (is_not HP1.out HH1.out).mono ?_
 rintro r w2 ⟨rfl, hk2⟩
 have HP2 := zh (HP1.out.keep hk2); have HQ2 := zh (hk2.at HQ1.out (by simp)); have HK2 := zh (HK1.out.trans hk2 (by simp))
 clear hk2
 go_wp2_with fail
 refine (HS.out _ HP2.out).mono ?_
 rintro r w9 ⟨v, rfl, hn', hp9, hk9⟩
 have hsz : w.heap.size < w2.heap.size := h_lt HQ2.out
 have hn : NodeR w9 (fun g => w.heap.size < g) n v := hn'.keep (Keeps.refl [] w9) (by simp) (fun x hx => Nat.lt_of_lt_of_le hsz hx)
 have hq3 := hk9.at HQ2.out (by simp; omega)
 obtain ⟨tx, nm, a, l, cap, re, im, rfl, -, -⟩ := hn.shape
 generalize hkd : n.kind = kd at *
 have HN3 := zh hn; have HP3 := zh hp9; have HK3 := zh ((HK2.out.weaken (fp' := [p]) (by simp)).trans hk9 (by simp))
 have hl3 : w.heap.size < w9.heap.size := h_lt hq3
 have q0 := cell_of_heap hq3 0
 have q1 := cell_of_heap hq3 1
 have q2 := cell_of_heap hq3 2
 have q3 := cell_of_heap hq3 3
 have q4 := cell_of_heap hq3 4
 have qf0 := frozen_of_heap hq3 0
 have qf1 := frozen_of_heap hq3 1
 have qf2 := frozen_of_heap hq3 2
 have qf3 := frozen_of_heap hq3 3
 have qf4 := frozen_of_heap hq3 4
 simp at q0 q1 q2 q3 q4
 clear hn hn' hp9 hk9 hq3
 go_wp2_with fail
 have t5 := nod5 w9 w.heap.size kd tx nm (.slice a l cap) re im
 refine bodyPost_ret (v := .agg #[.int .i64 kd, .string tx, .float .f64 nm, .slice a l cap, .complex .f64 re im]) (by simp [results, Tryz.results296, go_sem, q0, q1, q2, q3, q4]) rfl ⟨_, rfl, ?_, ?_, ?_⟩
 ·exact HN3.out.keep t5 (by simp) (fun x hx => Nat.le_of_lt hx)
 ·exact HP3.out.keepN t5 (by simp; omega) (by simp; omega)
 ·exact HK3.out.trans t5 (by simp)
end Go.Proofs.YtkfillfkbhbbjaaGreatDoor
