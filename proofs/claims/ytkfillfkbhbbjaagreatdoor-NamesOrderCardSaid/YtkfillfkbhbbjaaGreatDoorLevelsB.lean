/- ParD, Plan, ParE, ParF, ParG, ParH, Nodes, Levels, LevelsB. -/
import Derived.Test.YtkfillfkbhbbjaaGreatDoorParC
set_option maxRecDepth 100000
set_option maxHeartbeats 4000000
set_option linter.unusedSimpArgs false
set_option linter.unusedVariables false
namespace Go.Proofs.YtkfillfkbhbbjaaGreatDoor
open Go.RowKit
def opnF (x : ByteArray) (o : Int) : Option Int :=
 if same x (bs [40]) || same x (bs [91]) || same x (bs [123]) then (if o < 40 then some (o + 1) else none)
 else if same x (bs [41]) || same x (bs [93]) || same x (bs [125]) then (if -100 < o then some (o - 1) else none) else some o
def takeF (s : ByteArray) (st : PSt) (x : ByteArray) : Option (Bool × PSt) := do
 let t ← nextF s st.pos false
 if isT t x then do
  let o ← opnF x st.opn
  some (true, ⟨t.to, o, st.ng⟩)
 else some (false, st)
theorem take_any {s : ByteArray} {p : Nat} {st st' : PSt} {w : World} (h : PP s p st w) {x : ByteArray} {b : Bool} (hx : takeF s st x = some (b, st')) : Calls Tryz.prog 104 #[.pointer (some ⟨p, 0, none⟩), .string x] w fun r w' => r = .returned (.bool b) ∧ PP s p st' w' ∧ Keeps [p] w w' := by
 unfold takeF at hx
 cases ht : nextF s st.pos false with
 | none => rw [ht] at hx; simp at hx
 | some t =>
  rw [ht] at hx;simp only [Option.bind_eq_bind, Option.bind_some] at hx
  cases hi : isT t x
  ·rw [hi] at hx;simp only [Bool.false_eq_true, if_false, Option.some.injEq, Prod.mk.injEq] at hx;obtain ⟨rfl, rfl⟩ := hx;exact (take_no h ht hi).mono fun r w' ⟨hr, hk⟩ => ⟨hr, h.keep hk, hk.weaken jg⟩
  rw [hi] at hx;simp only [if_true] at hx
  cases ho : opnF x st.opn with
  | none => rw [ho] at hx; simp at hx
  | some o =>
   rw [ho] at hx;simp only [Option.bind_some, Option.some.injEq, Prod.mk.injEq] at hx;obtain ⟨rfl, rfl⟩ := hx;unfold opnF at ho;have fin : ∀ {l : List UInt8}, same x (bs l) = true → x = ⟨l.toArray⟩ := fun h => same_iff.1 h
   by_cases e40 : same x (bs [40]) = true
   ·rw [e40] at ho;have hxl := fin e40;subst hxl;simp at ho;obtain ⟨ho1, rfl⟩ := ho;exact take_40 h ht ho1 hi
   by_cases e91 : same x (bs [91]) = true
   ·rw [e91] at ho;have hxl := fin e91;subst hxl;simp [e40] at ho;obtain ⟨ho1, rfl⟩ := ho;exact take_91 h ht ho1 hi
   by_cases e123 : same x (bs [123]) = true
   ·rw [e123] at ho;have hxl := fin e123;subst hxl;simp [e40, e91] at ho;obtain ⟨ho1, rfl⟩ := ho;exact take_123 h ht ho1 hi
   by_cases e41 : same x (bs [41]) = true
   ·rw [e41] at ho;have hxl := fin e41;subst hxl;simp [e40, e91, e123] at ho;obtain ⟨ho1, rfl⟩ := ho;exact take_41 h ht ho1 hi
   by_cases e93 : same x (bs [93]) = true
   ·rw [e93] at ho;have hxl := fin e93;subst hxl;simp [e40, e91, e123, e41] at ho;obtain ⟨ho1, rfl⟩ := ho;exact take_93 h ht ho1 hi
   by_cases e125 : same x (bs [125]) = true
   ·rw [e125] at ho;have hxl := fin e125;subst hxl;simp [e40, e91, e123, e41, e93] at ho;obtain ⟨ho1, rfl⟩ := ho;exact take_125 h ht ho1 hi
   have n : ∀ {l : List UInt8}, ¬ same x (bs l) = true → (x.toList == l) = false := by
    intro l hl;have h2 := same_eq x (bs l);rw [show (bs l).toList = l from by rw [bs, ByteArray.toList_mk]] at h2;rw [h2]
    simpa using hl
   simp [e40, e91, e123, e41, e93, e125] at ho;subst ho;exact take_plain h ht (n e40) (n e91) (n e123) (n e41) (n e93) (n e125) hi
def wantF (s : ByteArray) (st : PSt) (x : ByteArray) : Option PSt := match takeF s st x with
 | some (true, st') => some st'
 | _ => none
theorem want_any {s : ByteArray} {p : Nat} {st st' : PSt} {w : World} (h : PP s p st w) {x : ByteArray} (hx : wantF s st x = some st') : Calls Tryz.prog 105 #[.pointer (some ⟨p, 0, none⟩), .string x] w fun r w' => r = .returned (.tuple #[]) ∧ PP s p st' w' ∧ Keeps [p] w w' := by
 have hx' : takeF s st x = some (true, st') := by
  unfold wantF at hx
  split at hx
  ·rename_i st2 h2;obtain rfl := Option.some.inj hx;exact h2
  cases hx
 have ht := take_any h hx';have H := zh h; have HT := zh ht;clear h hx hx' ht
 go_enter Tryz.func105, Tryz.ntmps105
 go_wp2_with fail
 refine jib ?_;rintro r w' ⟨rfl, hw'⟩;rw [hw'];clear hw'
 go_wp2_with fail
 refine HT.out.mono ?_;rintro r w1 ⟨rfl, hP, hK⟩;have HP := zh hP; have HK := zh hK;clear hP hK
 go_wp2_with fail
 go_end0
 exact ⟨rfl, HP.out, HK.out⟩
def linesF (s also : ByteArray) : Nat → PSt → Option PSt
 | 0, _ => none
 | f + 1, st => do
   let t ← nextF s st.pos false
   if t.kind = 1 ∨ (same also (bs []) = false ∧ t.kind = 9 ∧ same t.text also = true) then linesF s also f ⟨t.to, st.opn, st.ng⟩ else some st
theorem lines_any {s : ByteArray} {p : Nat} {st st' : PSt} {w : World} (h : PP s p st w) {also : ByteArray} {fu : Nat} (hx : linesF s also fu st = some st') : Calls Tryz.prog 35 #[.pointer (some ⟨p, 0, none⟩), .string also] w fun r w' => r = .returned (.tuple #[]) ∧ PP s p st' w' ∧ Keeps [p] w w' := by
 have HP := zh h; have HX := zh hx;clear h hx;have hae := same_eq also (bs []);rw [show (bs []).toList = [] from by rw [bs, ByteArray.toList_mk]] at hae;have HAE := zh hae;clear hae
 go_enter Tryz.func35, Tryz.ntmps35
 go_wp2_with fail
 go_loopg [] fu (fun g wr => ∃ st1, linesF s also g st1 = some st' ∧ PP s p st1 wr ∧ Keeps [p] w wr)
 case atStart => exact ⟨st, HX.out, HP.out, Keeps.refl _ _⟩
 obtain ⟨st1, hl, hP, hK⟩ := hrel
 skip
 cases gk with
 | zero => simp [linesF] at hl
 | succ f =>
  rw [linesF] at hl
  cases ht : nextF s st1.pos false with
  | none => rw [ht] at hl; simp at hl
  | some t =>
   rw [ht] at hl;simp only [Option.bind_eq_bind, Option.bind_some] at hl;have H := zh hP; have HK := zh hK; have HT := zh ht;obtain ⟨le1, le2, le3⟩ := nextF_le ht hP.le;clear hP hK ht;obtain ⟨kd, tx, nm, fr, te⟩ := t;obtain ⟨pos, opn, ng⟩ := st1;have hsq := same_eq tx also;simp only at hl le1 le2 le3
   by_cases h1 : kd = 1
   ·subst h1;rw [if_pos (.inl rfl)] at hl;have HF := zh hl;clear hl hsq;have q1 := cell_of_heap H.out.row 1;simp at q1;have hlt0 := h_lt H.out.row
    go_wp2_with fail
    refine jib ?_;rintro r w' ⟨rfl, hw'⟩;rw [hw'];clear hw'
    go_wp2_with fail
    refine qib ?_;rintro r w1 ⟨rfl, hk1⟩;clear q1 hlt0;have HP1 := zh (H.out.keep hk1);have HK1 := zh hk1;clear hk1
    go_wp2_with ((with_reducible show wpList _ _ _ (Oper.mk none (.store 90 _ _) _ _ _ _ :: _) _ _); refine stT 90 w1.heap.size 0 _ (h_new _ _) rfl (.agg #[.int .i64 1, .string tx, .float .f64 nm, .int .i64 fr, .int .i64 te]) rfl jh zj qh ?_)
    exact jhd
   have n1 : (kd == 1) = false := beq_false_of_ne h1;have n1' : (kd != 1) = true := by simp [h1]
   by_cases h2 : same also (bs []) = false ∧ kd = 9 ∧ same tx also = true
   ·obtain ⟨ha, rfl, hb⟩ := h2;rw [if_pos (.inr ⟨ha, rfl, hb⟩)] at hl;rw [hb] at hsq;have hae := HAE.out;rw [ha] at hae;have hae2 : also.toList.isEmpty = false := by simpa using hae
    have HF := zh hl;clear hl hb ha h1;have q1 := cell_of_heap H.out.row 1;simp at q1;have hlt0 := h_lt H.out.row
    go_wp2_with fail
    refine jib ?_;rintro r w' ⟨rfl, hw'⟩;rw [hw'];clear hw'
    go_wp2_with fail
    refine qib ?_;rintro r w1 ⟨rfl, hk1⟩;clear q1 hlt0;have HP1 := zh (H.out.keep hk1);have HK1 := zh hk1;clear hk1
    go_wp2_with ((with_reducible show wpList _ _ _ (Oper.mk none (.store 90 _ _) _ _ _ _ :: _) _ _); refine stT 90 w1.heap.size 0 _ (h_new _ _) rfl (.agg #[.int .i64 9, .string tx, .float .f64 nm, .int .i64 fr, .int .i64 te]) rfl jh zj qh ?_)
    exact jhd
   rw [if_neg (by rintro (h | h); exact h1 h; exact h2 h)] at hl;obtain rfl := Option.some.inj hl;clear hl HX
   cases ha : same also (bs [])
   ·have hae := HAE.out;rw [ha] at hae;have hae2 : also.toList.isEmpty = false := by simpa using hae
    by_cases h9 : kd = 9
    ·subst h9
     have hb : same tx also = false := by
      cases hb : same tx also
      ·rfl
      exact absurd ⟨ha, rfl, hb⟩ h2
     rw [hb] at hsq;clear hb ha h2 h1;have q1 := cell_of_heap H.out.row 1;simp at q1;have hlt0 := h_lt H.out.row
     go_wp2_with fail
     refine jib ?_;rintro r w' ⟨rfl, hw'⟩;rw [hw'];clear hw'
     go_wp2_with fail
     refine qib ?_;rintro r w1 ⟨rfl, hk1⟩;clear q1 hlt0;have HP1 := zh (H.out.keep hk1);have HK1 := zh hk1;clear hk1
     go_wp2_with ((with_reducible show wpList _ _ _ (Oper.mk none (.store 90 _ _) _ _ _ _ :: _) _ _); refine stT 90 w1.heap.size 0 _ (h_new _ _) rfl (.agg #[.int .i64 9, .string tx, .float .f64 nm, .int .i64 fr, .int .i64 te]) rfl jh zj qh ?_)
     exact qdd
    have n9 : (kd == 9) = false := beq_false_of_ne h9;clear ha h2 h1 h9 hsq;exact qnd
   have hae := HAE.out;rw [ha] at hae;have hae2 : also.toList.isEmpty = true := by simpa using hae
   clear ha h2 h1 hsq;exact qnd
inductive Node where
 | mk (kind : Int) (name : ByteArray) (num : Nat) (kids : List Node) (re im : Nat)
def Node.kind : Node → Int
 | .mk k _ _ _ _ _ => k
def Node.re : Node → Nat
 | .mk _ _ _ _ re _ => re
def Node.im : Node → Nat
 | .mk _ _ _ _ _ im => im
def lval (n : Node) : Bool := n.kind == 4 || n.kind == 5 || n.kind == 6
def oneF (s : ByteArray) (st : PSt) (sg : ByteArray) : Option (Option (ByteArray × Nat × Nat) × PSt) := do
 let t ← nextF s st.pos false
 if t.kind == 9 && among sg t.text then some (some (t.text, placeOf s t.fr), ⟨t.to, st.opn, st.ng⟩) else some (none, st)
def noneF (s : ByteArray) (st : PSt) (sg : ByteArray) : Option Unit := do
 let x ← oneF s st sg
 match x.1 with
 | none => some ()
 | some _ => none
def isF (s : ByteArray) (st : PSt) (x : ByteArray) : Option Bool := do
 let t ← nextF s st.pos false
 some (isT t x)
def notF (s : ByteArray) (st : PSt) (x : ByteArray) : Option Unit := do
 let b ← isF s st x
 if b then none else some ()
def hereF (s : ByteArray) (st : PSt) (op : Bool) : Option (Tok × Nat × Nat) := do
 let t ← nextF s st.pos op
 some (t, placeOf s t.fr)
def linesA (s : ByteArray) (st : PSt) (also : ByteArray) : Option PSt := linesF s also (s.size + 2) st
def dollarSigns : ByteArray := bs [36, 32, 40, 32, 43, 43, 32, 45, 45]
def goesF (s : ByteArray) (st : PSt) : Option Bool := do
 let t ← nextF s st.pos false
 if t.kind = 2 ∨ t.kind = 3 ∨ t.kind = 5 ∨ t.kind = 6 ∨ t.kind = 7 then some true
 else if t.kind = 9 then some (among dollarSigns t.text) else some false
inductive Wh where
 | expr | cond | or | and | in | match | compare | concat | sum | product | unary | power | post | primary | operand | dollar
 | simple | stmt | block
abbrev Rec := Wh → PSt → Option (Node × PSt)
def plusminus : ByteArray := bs [43, 32, 45]
def stars : ByteArray := bs [42, 32, 47, 32, 37]
def incs : ByteArray := bs [43, 43, 32, 45, 45]
def assigns : ByteArray := bs [61, 32, 43, 61, 32, 45, 61, 32, 42, 61, 32, 47, 61, 32, 37, 61, 32, 94, 61]
def compares : ByteArray := bs [60, 32, 60, 61, 32, 61, 61, 32, 33, 61, 32, 62, 61, 32, 62]
def moreF (s : ByteArray) (rec : Rec) : Nat → List Node → PSt → Option (List Node × PSt)
 | 0, _, _ => none
 | f + 1, l, st => do
   let (b, st) ← takeF s st (bs [44])
   if b then none else some (l, st)
def listF (s : ByteArray) (rec : Rec) (top : Bool) (st : PSt) : Option (List Node × PSt) := do
 if st.ng then none else do
 let (n, st1) ← rec .expr ⟨st.pos, st.opn, st.ng && top⟩
 let (l, st2) ← moreF s rec 50 [n] st1
 some (l, ⟨st2.pos, st2.opn, st.ng⟩)
def concatF (s : ByteArray) (rec : Rec) : Nat → Node → PSt → Option (Node × PSt)
 | 0, _, _ => none
 | f + 1, n, st => do
   let b ← goesF s st
   if b then none else some (n, st)
def sumF (s : ByteArray) (rec : Rec) : Nat → Node → PSt → Option (Node × PSt)
 | 0, _, _ => none
 | f + 1, n, st => do
   let (x, st) ← oneF s st plusminus
   match x with
   | none => some (n, st)
   | some (x, re, im) => do
     let (m, st) ← rec .product st
     sumF s rec f (.mk 15 x 0 [n, m] re im) st
def stmtsF (s : ByteArray) (rec : Rec) : Nat → List Node → PSt → Option (List Node × PSt)
 | 0, _, _ => none
 | f + 1, l, st => do
   let b ← isF s st (bs [125])
   if b then some (l, st) else do
    let (n, st) ← rec .stmt st
    let st ← linesA s st (bs [59])
    stmtsF s rec f (l ++ [n]) st
def endF (s : ByteArray) (st : PSt) : Option PSt := do
 let t ← nextF s st.pos false
 if t.kind = 0 then none else do
  let b ← isF s st (bs [125])
  if b then some st
  else if t.kind = 9 ∧ same t.text (bs [59]) = true then some ⟨t.to, st.opn, st.ng⟩ else none
def step (s : ByteArray) (rec : Rec) : Rec
 | .expr, st => do
   let (n, st) ← rec .cond st
   if lval n then do
    let (x, st) ← oneF s st assigns
    match x with
    | none => some (n, st)
    | some (x, re, im) => do
      let (m, st) ← rec .expr st
      some (.mk 7 x 0 [n, m] re im, st)
   else some (n, st)
 | .cond, st => do
   let (n, st) ← rec .or st
   noneF s st (bs [63])
   some (n, st)
 | .or, st => do
   let (n, st) ← rec .and st
   noneF s st (bs [124, 124])
   some (n, st)
 | .and, st => do
   let (n, st) ← rec .in st
   noneF s st (bs [38, 38])
   some (n, st)
 | .in, st => do
   let (n, st) ← rec .match st
   notF s st (bs [105, 110])
   some (n, st)
 | .match, st => do
   let (n, st) ← rec .compare st
   noneF s st (bs [126, 32, 33, 126])
   some (n, st)
 | .compare, st => do
   let (n, st) ← rec .concat st
   if st.ng then none else do
   noneF s st compares
   some (n, st)
 | .concat, st => do
   let (n, st) ← rec .sum st
   concatF s rec 50 n st
 | .sum, st => do
   let (n, st) ← rec .product st
   sumF s rec 50 n st
 | .product, st => do
   let (n, st) ← rec .unary st
   noneF s st stars
   some (n, st)
 | .unary, st => do
   noneF s st (bs [33, 32, 45, 32, 43])
   rec .power st
 | .power, st => do
   let (n, st) ← rec .post st
   noneF s st (bs [94])
   some (n, st)
 | .post, st => do
   let (n, st) ← rec .primary st
   if lval n then do
    let (x, st) ← oneF s st incs
    match x with
    | none => some (n, st)
    | some (x, re, im) => some (.mk 18 x 0 [n] re im, st)
   else some (n, st)
 | .primary, st => do
   noneF s st incs
   notF s st (bs [40])
   rec .operand st
 | .operand, st => do
   let t ← nextF s st.pos true
   let (re, im) := placeOf s t.fr
   if t.kind = 2 then some (.mk 1 (bs []) t.num [] re im, ⟨t.to, st.opn, st.ng⟩)
   else if t.kind = 5 then do
    let (b, st) ← takeF s ⟨t.to, st.opn, st.ng⟩ (bs [91])
    if b then do
     let (l, st) ← listF s rec false st
     let st ← wantF s st (bs [93])
     some (.mk 5 t.text 0 l re im, st)
    else some (.mk 4 t.text 0 [] re im, st)
   else if t.kind = 9 ∧ same t.text (bs [36]) = true then do
    let (n, st) ← rec .dollar ⟨t.to, st.opn, st.ng⟩
    some (.mk 6 (bs []) 0 [n] re im, st)
   else none
 | .dollar, st => do
   noneF s st incs
   notF s st (bs [40])
   rec .operand st
 | .simple, st => do
   let (_, re, im) ← hereF s st true
   notF s st (bs [98, 114, 101, 97, 107])
   notF s st (bs [99, 111, 110, 116, 105, 110, 117, 101])
   let (b, st) ← takeF s st (bs [110, 101, 120, 116])
   if b then some (.mk 38 (bs []) 0 [] re im, st) else do
    notF s st (bs [101, 120, 105, 116])
    notF s st (bs [114, 101, 116, 117, 114, 110])
    notF s st (bs [100, 101, 108, 101, 116, 101])
    let (b, st) ← takeF s st (bs [112, 114, 105, 110, 116])
    if b then none
    else do
     notF s st (bs [112, 114, 105, 110, 116, 102])
     let (n, st) ← rec .expr st
     some (.mk 44 (bs []) 0 [n] n.re n.im, st)
 | .stmt, st => do
   let _ ← hereF s st true
   notF s st (bs [123])
   notF s st (bs [105, 102])
   notF s st (bs [119, 104, 105, 108, 101])
   notF s st (bs [100, 111])
   notF s st (bs [102, 111, 114])
   let (n, st) ← rec .simple st
   let st ← endF s st
   some (n, st)
 | .block, st => do
   let (_, re, im) ← hereF s st false
   let st ← wantF s st (bs [123])
   let st ← linesA s st (bs [59])
   let (l, st) ← stmtsF s rec 50 [] st
   let st ← wantF s st (bs [125])
   some (.mk 30 (bs []) 0 l re im, st)
def parN (s : ByteArray) : Nat → Rec
 | 0 => fun _ _ => none
 | n + 1 => step s (parN s n)
structure RuleP where
 kind : Int
 n : Int
 pats : List Node
 body : Node
 re : Nat
 im : Nat
structure FuncP where
 name : ByteArray
 params : List ByteArray
 body : Node
 re : Nat
 im : Nat
structure ProgP where
 rules : List RuleP
 funcs : List FuncP
def ruleF (s : ByteArray) (rec : Rec) (st : PSt) : Option (RuleP × PSt) := do
 let (_, re, im) ← hereF s st true
 let (b, st) ← takeF s st (bs [66, 69, 71, 73, 78])
 if b then do
  let (n, st) ← rec .block st
  some (⟨1, 0, [], n, re, im⟩, st)
 else do
  notF s st (bs [69, 78, 68])
  notF s st (bs [71, 65, 80])
  notF s st (bs [69, 86, 69, 82, 89])
  let c ← isF s st (bs [123])
  if c then do
   let (n, st) ← rec .block st
   some (⟨5, 0, [], n, re, im⟩, st)
  else none
def itemsF (s : ByteArray) (rec : Rec) : Nat → ProgP → PSt → Option ProgP
 | 0, _, _ => none
 | f + 1, g, st => do
   let st ← linesA s st (bs [59])
   let t ← nextF s st.pos true
   if t.kind = 0 then some g else do
    let b ← isF s st (bs [102, 117, 110, 99, 116, 105, 111, 110])
    if b then none
    else do
     let (x, st) ← ruleF s rec st
     itemsF s rec f ⟨g.rules ++ [x], g.funcs⟩ st
def parseF (s : ByteArray) : Option ProgP := if s.size ≤ 4096 then itemsF s (parN s 100) 50 ⟨[], []⟩ ⟨0, 0, false⟩ else none
@[go_sem] theorem run_store_float {P : Program} {w : World} {a : Addr} {m : Mode} (k : FloatKind) (n : Nat) : (store a (.float k n) m).run P w = stored P w a (.float k n) m := run_store P w a _ m rfl
@[go_sem] theorem run_store_complex {P : Program} {w : World} {a : Addr} {m : Mode} (k : FloatKind) (x y : Nat) : (store a (.complex k x y) m).run P w = stored P w a (.complex k x y) m := run_store P w a _ m rfl
theorem step_call {P : Program} {ops : Array Oper} {o : Oper} {a : Act} {w : World} {K : Act → World → Prop} {Q : Exit → Act → World → Prop} {E : Prop} (hg : o.guard = none) {f : FuncId} {vals : Array Value} (c : Call) (_ho : o.op = .call c) (hrun : (execOp a.eval o).run P w = .ok (.enter f vals) w) {R : Value → World → Prop} (hc : Calls P f vals w fun e w' => ∃ v, e = .returned v ∧ R v w') (hK : ∀ v w', R v w' → K (a.put o.dst v) w') : if Region.wanted o (yielded ops a.tmps) = true then Oper.wp P o a w K Q else E := by
 rw [if_pos (by simp [Region.wanted, hg])];unfold Oper.wp;rw [hrun, Oper.upon_enter];exact jkb
theorem keeps_set {w W : World} (h : Keeps [] w W) {b i : Nat} {u : Value} (hb : w.heap.size ≤ b) : Keeps [] w (W.setCell ⟨b, i, none⟩ u) :=
 h.trans (fp' := [b]) (Keeps.setCell _ _ _ _ jg) (by simpa using hb)
theorem keeps_new {w W : World} (h : Keeps [] w W) (o : Obj) : Keeps [] w (W.alloc o) := h.trans (Keeps.alloc [] W o) jg
theorem keeps_drew {w W : World} (h : Keeps [] w W) : Keeps [] w W.drew := h.trans (Keeps.drew [] W) jg
theorem tok5 {W : World} {b : Nat} (h : W.heap[b]? = some (tokC 0 ⟨#[]⟩ 0 0 0)) (kd : Int) (tx : ByteArray) (nm : Nat) (fr te : Int) : (((((W.setCell ⟨b, 0, none⟩ (.int .i64 kd)).setCell ⟨b, 1, none⟩ (.string tx)).setCell ⟨b, 2, none⟩ (.float .f64 nm)).setCell ⟨b, 3, none⟩ (.int .i64 fr)).setCell ⟨b, 4, none⟩ (.int .i64 te)).heap[b]? = some (tokC kd tx nm fr te) ∧ (∀ k x, k ≠ b → W.heap[k]? = some x → (((((W.setCell ⟨b, 0, none⟩ (.int .i64 kd)).setCell ⟨b, 1, none⟩ (.string tx)).setCell ⟨b, 2, none⟩ (.float .f64 nm)).setCell ⟨b, 3, none⟩ (.int .i64 fr)).setCell ⟨b, 4, none⟩ (.int .i64 te)).heap[k]? = some x) ∧ ∀ w, Keeps [] w W → w.heap.size ≤ b → Keeps [] w (((((W.setCell ⟨b, 0, none⟩ (.int .i64 kd)).setCell ⟨b, 1, none⟩ (.string tx)).setCell ⟨b, 2, none⟩ (.float .f64 nm)).setCell ⟨b, 3, none⟩ (.int .i64 fr)).setCell ⟨b, 4, none⟩ (.int .i64 te)) := by
 refine ⟨?_, fun k x hk hx => ?_, fun w hk hb => ?_⟩
 ·have := h_set_eq (i := 4) (u := .int .i64 te) (h_set_eq (i := 3) (u := .int .i64 fr) (h_set_eq (i := 2) (u := .float .f64 nm) (h_set_eq (i := 1) (u := .string tx) (h_set_eq (i := 0) (u := .int .i64 kd) h))))
  simpa using this
 ·exact h_set_ne hk (h_set_ne hk (h_set_ne hk (h_set_ne hk (h_set_ne hk hx))))
 exact keeps_set (keeps_set (keeps_set (keeps_set (keeps_set hk hb) hb) hb) hb) hb
theorem see_any {s : ByteArray} {p : Nat} {st : PSt} {w : World} (h : PP s p st w) {op : Bool} {t : Tok} (ht : nextF s st.pos op = some t) : Calls Tryz.prog 36 #[.pointer (some ⟨p, 0, none⟩), .bool op] w fun r w' => r = .returned (tokV t) ∧ Keeps [] w w' := by
 have c0 := cell_of_heap h.row 0;have c1 := cell_of_heap h.row 1;simp at c0 c1;have hlt := h_lt h.row;have hN : ∀ W, Keeps [] w W → Calls Tryz.prog 62 #[.string s, .int .i64 st.pos, .bool op] W fun r w' => ∃ v, r = .returned v ∧ (v = .tuple #[tokV t, .int .i64 0] ∧ Keeps [] W w') := fun W hk => (next_any (h.gl.keep hk jg) ht h.le zbb).mono fun r w' ⟨hr, hk⟩ => ⟨_, hr, rfl, hk⟩
 have HN := zh hN;clear h hN ht;obtain ⟨kd, tx, nm, fr, te⟩ := t;obtain ⟨pos, opn, ng⟩ := st
 go_enter Tryz.func36, Tryz.ntmps36
 go_upto_region 1 with fail
 go_cut [5, 6] (fun s5 s6 wx => ∃ b, s5 = .pointer (some ⟨b, 0, none⟩) ∧ s6 = .int .i64 0 ∧ w.heap.size < b ∧ wx.heap[b]? = some (tokC kd tx nm fr te) ∧ wx.heap[w.heap.size]? = some (tokC 0 ⟨#[]⟩ 0 0 0) ∧ Keeps [] w wx)
 case first =>
  exact zgd
 obtain ⟨b, rfl, rfl, hb, hr, hq, hk⟩ := hcut;have x0 := cell_of_heap hr 0;have x1 := cell_of_heap hr 1;have x2 := cell_of_heap hr 2;have x3 := cell_of_heap hr 3;have x4 := cell_of_heap hr 4;simp at x0 x1 x2 x3 x4;have HQ := zh hq; have HK := zh hk;clear hr hq hk
 go_wp2_with ((with_reducible show wpList _ _ _ (Oper.mk none (.store 90 _ _) _ _ _ _ :: _) _ _); refine stT 90 w.heap.size 0 _ HQ.out rfl (.agg #[.int .i64 kd, .string tx, .float .f64 nm, .int .i64 fr, .int .i64 te]) rfl jh zj qh ?_)
 intro w3 hs3;have y0 := cell_of_heap hs3.row 0;have y1 := cell_of_heap hs3.row 1;have y2 := cell_of_heap hs3.row 2;have y3 := cell_of_heap hs3.row 3;have y4 := cell_of_heap hs3.row 4;simp at y0 y1 y2 y3 y4;have HK3 := zh (HK.out.trans hs3.keeps jg);clear hs3 x0 x1 x2 x3 x4
 go_wp2_with fail
 exact bodyPost_ret (v := .agg #[.int .i64 kd, .string tx, .float .f64 nm, .int .i64 fr, .int .i64 te]) (by simp [results, rsA, go_sem, y0, y1, y2, y3, y4]) rfl ⟨rfl, HK3.out⟩
theorem PP.put {s : ByteArray} {p : Nat} {st : PSt} {W : World} (h : PP s p st W) {te : Nat} (ht : te ≤ s.size) : PP s p ⟨te, st.opn, st.ng⟩ (W.setCell ⟨p, 1, none⟩ (.int .i64 te)) ∧ Keeps [p] W (W.setCell ⟨p, 1, none⟩ (.int .i64 te)) := by
 have hk : Keeps [p] W (W.setCell ⟨p, 1, none⟩ (.int .i64 te)) := Keeps.setCell _ _ _ _ jg;refine ⟨⟨h.gl.keep hk (by have := h.p; simpa using this), ?_, h.p, h.size, ht, h.ob⟩, hk⟩;have := h_set_eq (i := 1) (u := .int .i64 te) h.row
 simpa using this
theorem PP.keepN {s : ByteArray} {p : Nat} {st : PSt} {w w' : World} (h : PP s p st w) {fp : List Nat} (hk : Keeps fp w w') (hp : p ∉ fp) (hf : ∀ x ∈ fp, 14 < x) : PP s p st w' :=
 ⟨h.gl.keep hk hf, hk.at h.row hp, h.p, h.size, h.le, h.ob⟩
theorem Keeps.nil {w w' : World} (h : Keeps [] w w') (p : Nat) : Keeps [p] w w' := h.weaken jg
theorem one_no1 {s : ByteArray} {p : Nat} {st : PSt} {w : World} (h : PP s p st w) {t : Tok} (ht : nextF s st.pos false = some t) (sg : ByteArray) (hsg : sg.size ≤ 1000000) (h9 : ¬ t.kind = 9) : Calls Tryz.prog 132 #[.pointer (some ⟨p, 0, none⟩), .string sg] w fun r w' => r = .returned (.tuple #[.string ⟨#[]⟩, .complex .f64 0 0, .bool false]) ∧ Keeps [] w w' := by
 have H := zh h; have HT := zh ht;clear h ht;obtain ⟨kd, tx, nm, fr, te⟩ := t;simp only at h9;have n9 : (kd == 9) = false := beq_false_of_ne h9;have n9' : (kd != 9) = true := by simp [h9]
 have c1 := cell_of_heap H.out.row 1;simp at c1;have hlt := h_lt H.out.row
 go_enter Tryz.func132, Tryz.ntmps132
 go_wp2_with fail
 refine jib ?_;rintro r w' ⟨rfl, hw'⟩;rw [hw'];clear hw'
 go_wp2_with fail
 refine qib ?_;rintro r w1 ⟨rfl, hk1⟩;have HP1 := zh (H.out.keep hk1);have HK1 := zh hk1;clear hk1 c1
 go_wp2_with ((with_reducible show wpList _ _ _ (Oper.mk none (.store 90 _ _) _ _ _ _ :: _) _ _); refine stT 90 w1.heap.size 0 _ (h_new _ _) rfl (.agg #[.int .i64 kd, .string tx, .float .f64 nm, .int .i64 fr, .int .i64 te]) rfl jh zj qh ?_)
 intro w2 hs2;have x0 := cell_of_heap hs2.row 0;have x1 := cell_of_heap hs2.row 1;have x2 := cell_of_heap hs2.row 2;have x3 := cell_of_heap hs2.row 3;have x4 := cell_of_heap hs2.row 4;simp at x0 x1 x2 x3 x4;have hsz2 := HK1.out.size;have HTR2 := zh hs2.row;have hst2 : Keeps [] w1 w2 := (Keeps.alloc [] w1 (tokC 0 ⟨#[]⟩ 0 0 0)).trans hs2.keeps jg;have HST2 := zh hst2;have HK2 := zh (HK1.out.trans hst2 jg);clear hs2 hst2;have HP2 := zh (HP1.out.keep HST2.out)
 go_wp2_with fail
 exact qkb
theorem one_no2 {s : ByteArray} {p : Nat} {st : PSt} {w : World} (h : PP s p st w) {t : Tok} (ht : nextF s st.pos false = some t) (sg : ByteArray) (hsg : sg.size ≤ 1000000) (h9 : t.kind = 9) (ha : among sg t.text = false) : Calls Tryz.prog 132 #[.pointer (some ⟨p, 0, none⟩), .string sg] w fun r w' => r = .returned (.tuple #[.string ⟨#[]⟩, .complex .f64 0 0, .bool false]) ∧ Keeps [] w w' := by
 have H := zh h; have HT := zh ht;clear h ht;obtain ⟨kd, tx, nm, fr, te⟩ := t;simp only at h9 ha;subst h9;have hA := fun W => among_any sg tx hsg W
 rw [ha] at hA;have HA := zh hA;clear hA ha;have c1 := cell_of_heap H.out.row 1;simp at c1;have hlt := h_lt H.out.row
 go_enter Tryz.func132, Tryz.ntmps132
 go_wp2_with fail
 refine jib ?_;rintro r w' ⟨rfl, hw'⟩;rw [hw'];clear hw'
 go_wp2_with fail
 refine qib ?_;rintro r w1 ⟨rfl, hk1⟩;have HP1 := zh (H.out.keep hk1);have HK1 := zh hk1;clear hk1 c1
 go_wp2_with ((with_reducible show wpList _ _ _ (Oper.mk none (.store 90 _ _) _ _ _ _ :: _) _ _); refine stT 90 w1.heap.size 0 _ (h_new _ _) rfl (.agg #[.int .i64 9, .string tx, .float .f64 nm, .int .i64 fr, .int .i64 te]) rfl jh zj qh ?_)
 intro w2 hs2;have x0 := cell_of_heap hs2.row 0;have x1 := cell_of_heap hs2.row 1;have x2 := cell_of_heap hs2.row 2;have x3 := cell_of_heap hs2.row 3;have x4 := cell_of_heap hs2.row 4;simp at x0 x1 x2 x3 x4;have hsz2 := HK1.out.size;have HTR2 := zh hs2.row;have hst2 : Keeps [] w1 w2 := (Keeps.alloc [] w1 (tokC 0 ⟨#[]⟩ 0 0 0)).trans hs2.keeps jg;have HST2 := zh hst2;have HK2 := zh (HK1.out.trans hst2 jg);clear hs2 hst2;have HP2 := zh (HP1.out.keep HST2.out)
 go_wp2_with fail
 refine (HA.out _).mono ?_;rintro r w' ⟨rfl, hw'⟩;rw [hw'];clear hw'
 go_wp2_with fail
 exact qkb
theorem one_yes {s : ByteArray} {p : Nat} {st : PSt} {w : World} (h : PP s p st w) {t : Tok} (ht : nextF s st.pos false = some t) (sg : ByteArray) (hsg : sg.size ≤ 1000000) (h9 : t.kind = 9) (ha : among sg t.text = true) : Calls Tryz.prog 132 #[.pointer (some ⟨p, 0, none⟩), .string sg] w fun r w' => r = .returned (.tuple #[.string t.text, .complex .f64 (placeOf s t.fr).1 (placeOf s t.fr).2, .bool true]) ∧ PP s p ⟨t.to, st.opn, st.ng⟩ w' ∧ Keeps [p] w w' := by
 obtain ⟨le1, le2, le3⟩ := nextF_le ht h.le;have H := zh h; have HT := zh ht;clear h ht;obtain ⟨kd, tx, nm, fr, te⟩ := t;simp only at h9 ha le1 le2 le3;subst h9;have hA := fun W => among_any sg tx hsg W
 rw [ha] at hA;have HA := zh hA;clear hA ha;have c1 := cell_of_heap H.out.row 1;simp at c1;have hlt := h_lt H.out.row
 go_enter Tryz.func132, Tryz.ntmps132
 go_wp2_with fail
 refine jib ?_;rintro r w' ⟨rfl, hw'⟩;rw [hw'];clear hw'
 go_wp2_with fail
 refine qib ?_;rintro r w1 ⟨rfl, hk1⟩;have HP1 := zh (H.out.keep hk1);have HK1 := zh hk1;clear hk1 c1
 go_wp2_with ((with_reducible show wpList _ _ _ (Oper.mk none (.store 90 _ _) _ _ _ _ :: _) _ _); refine stT 90 w1.heap.size 0 _ (h_new _ _) rfl (.agg #[.int .i64 9, .string tx, .float .f64 nm, .int .i64 fr, .int .i64 te]) rfl jh zj qh ?_)
 intro w2 hs2;have x0 := cell_of_heap hs2.row 0;have x1 := cell_of_heap hs2.row 1;have x2 := cell_of_heap hs2.row 2;have x3 := cell_of_heap hs2.row 3;have x4 := cell_of_heap hs2.row 4;simp at x0 x1 x2 x3 x4;have hsz2 := HK1.out.size;have HTR2 := zh hs2.row;have hst2 : Keeps [] w1 w2 := (Keeps.alloc [] w1 (tokC 0 ⟨#[]⟩ 0 0 0)).trans hs2.keeps jg;have HST2 := zh hst2;have HK2 := zh (HK1.out.trans hst2 jg);clear hs2 hst2;have HP2 := zh (HP1.out.keep HST2.out);have n1 : p ≠ w1.heap.size := by omega
 have n2 : w1.heap.size ≠ p := by omega
 have c1 := cell_of_heap HP2.out.row 1;have f1 := frozen_of_heap HP2.out.row 1;simp at c1;have hl3 : p < w2.heap.size := h_lt HP2.out.row
 go_wp2_with fail
 refine (HA.out _).mono ?_;rintro r w' ⟨rfl, hw'⟩;rw [hw'];clear hw'
 go_upto_region 7 with fail
 obtain ⟨hp3, hk3⟩ := HP2.out.put le2;have x0' := x0; have hr3 := hk3.at HTR2.out qi;have z0 := cell_of_heap hr3 0;have z1 := cell_of_heap hr3 1;have z2 := cell_of_heap hr3 2;have z3 := cell_of_heap hr3 3;have z4 := cell_of_heap hr3 4;simp at z0 z1 z2 z3 z4;have HK3 := zh ((HK2.out.nil p).trans hk3 jg);have HP3 := zh hp3;clear hp3 hk3 x0 x1 x2 x3 x4 x0' hr3 c1 f1;generalize w2.setCell ⟨p, 1, none⟩ (.int .i64 te) = w3 at *
 have hpl : ∀ W, Keeps [] w3 W → Calls Tryz.prog 126 #[.pointer (some ⟨p, 0, none⟩), tokV ⟨9, tx, nm, fr, te⟩] W fun r w' => ∃ v, r = .returned v ∧ (v = .complex .f64 (placeOf s fr).1 (placeOf s fr).2 ∧ Keeps [] W w') := fun W hk => (place_tok (HP3.out.keep hk) ⟨9, tx, nm, fr, te⟩ zab).mono fun r w' ⟨hr, hk⟩ => ⟨_, hr, rfl, hk⟩
 have HPL := zh hpl;clear hpl;have hb3 : w1.heap.size < w3.heap.size := World.block_lt_of_cell? w3 ⟨w1.heap.size, 0, none⟩ z0;generalize hpc : placeOf s fr = pc at *
 obtain ⟨p1, p2⟩ := pc
 go_region_law ((refine step_call (f := 126) (vals := #[.pointer (some ⟨p, 0, none⟩), tokV ⟨9, tx, nm, fr, te⟩]) rfl _ rfl jh (HPL.out _ (by first | exact Keeps.drew [] w3 | exact Keeps.refl [] w3)) ?_; rintro v w4 ⟨rfl, hk4⟩; have u0 := hk4.cell (by simpa using hb3) z0; have u1 := hk4.cell (by simpa using hb3) z1; have hkw : Keeps [] w3 w4 := (by first | exact (Keeps.drew [] w3).trans hk4 jg | exact hk4)))
 all_goals
  have hfin : PP s p ⟨te, st.opn, st.ng⟩ w4 ∧ Keeps [p] w w4 := ⟨HP3.out.keep hkw, HK3.out.trans hkw jg⟩;have HF := zh hfin;clear hfin hkw hk4 u0 u1
  go_wp2_with fail
  exact bodyPost_ret (v := .tuple #[.string tx, .complex .f64 p1 p2, .bool true]) qq rfl ⟨rfl, HF.out.1, HF.out.2⟩
theorem here_any {s : ByteArray} {p : Nat} {st : PSt} {w : World} (h : PP s p st w) {op : Bool} {t : Tok} (ht : nextF s st.pos op = some t) : Calls Tryz.prog 103 #[.pointer (some ⟨p, 0, none⟩), .bool op] w fun r w' => r = .returned (.tuple #[tokV t, .complex .f64 (placeOf s t.fr).1 (placeOf s t.fr).2]) ∧ Keeps [] w w' := by
 have c0 := cell_of_heap h.row 0;have c1 := cell_of_heap h.row 1;simp at c0 c1;have hlt := h_lt h.row;have hN : ∀ W, Keeps [] w W → Calls Tryz.prog 62 #[.string s, .int .i64 st.pos, .bool op] W fun r w' => ∃ v, r = .returned v ∧ (v = .tuple #[tokV t, .int .i64 0] ∧ Keeps [] W w') := fun W hk => (next_any (h.gl.keep hk jg) ht h.le zbb).mono fun r w' ⟨hr, hk⟩ => ⟨_, hr, rfl, hk⟩
 obtain ⟨le1, le2, le3⟩ := nextF_le ht h.le;have HN := zh hN; have H := zh h;clear h hN ht;obtain ⟨kd, tx, nm, fr, te⟩ := t;obtain ⟨pos, opn, ng⟩ := st;simp only at le1 le2 le3
 go_enter Tryz.func103, Tryz.ntmps103
 go_upto_region 1 with fail
 go_cut [6, 7] (fun s5 s6 wx => ∃ b, s5 = .pointer (some ⟨b, 0, none⟩) ∧ s6 = .int .i64 0 ∧ w.heap.size < b ∧ wx.heap[b]? = some (tokC kd tx nm fr te) ∧ wx.heap[w.heap.size]? = some (tokC 0 ⟨#[]⟩ 0 0 0) ∧ Keeps [] w wx)
 case first =>
  exact zgd
 obtain ⟨b, rfl, rfl, hb, hr, hq, hk⟩ := hcut;have x0 := cell_of_heap hr 0;have x1 := cell_of_heap hr 1;have x2 := cell_of_heap hr 2;have x3 := cell_of_heap hr 3;have x4 := cell_of_heap hr 4;simp at x0 x1 x2 x3 x4;have HR := zh hr; have HQ := zh hq; have HK := zh hk;have hbl : b < wc.heap.size := h_lt hr;have hpl : ∀ W, Keeps [] wc W → Calls Tryz.prog 126 #[.pointer (some ⟨p, 0, none⟩), tokV ⟨kd, tx, nm, fr, te⟩] W fun r w' => ∃ v, r = .returned v ∧ (v = .complex .f64 (placeOf s fr).1 (placeOf s fr).2 ∧ Keeps [] W w') := fun W hk' => (place_tok ((H.out.keep hk).keep hk') ⟨kd, tx, nm, fr, te⟩ zab).mono fun r w' ⟨hr, hk⟩ => ⟨_, hr, rfl, hk⟩
 have HPL := zh hpl;clear hr hq hk hpl;generalize hpc : placeOf s fr = pc at *
 obtain ⟨p1, p2⟩ := pc
 go_upto_region 2 with fail
 go_region_law ((refine step_call (f := 126) (vals := #[.pointer (some ⟨p, 0, none⟩), tokV ⟨kd, tx, nm, fr, te⟩]) rfl _ rfl jh (HPL.out _ (by first | exact Keeps.drew [] wc | exact Keeps.refl [] wc)) ?_; rintro v w4 ⟨rfl, hk4⟩; have hkw : Keeps [] wc w4 := (by first | exact (Keeps.drew [] wc).trans hk4 jg | exact hk4); have hr4 := hkw.at HR.out jg; have hq4 := hkw.at HQ.out jg; have u0 := cell_of_heap hr4 0; have u1 := cell_of_heap hr4 1; have u2 := cell_of_heap hr4 2; have u3 := cell_of_heap hr4 3; have u4 := cell_of_heap hr4 4; have v0 := cell_of_heap hq4 0; have v1 := cell_of_heap hq4 1; have v2 := cell_of_heap hq4 2; have v3 := cell_of_heap hq4 3; have v4 := cell_of_heap hq4 4; have vf0 := frozen_of_heap hq4 0; have vf1 := frozen_of_heap hq4 1; have vf2 := frozen_of_heap hq4 2; have vf3 := frozen_of_heap hq4 3; have vf4 := frozen_of_heap hq4 4; simp at u0 u1 u2 u3 u4 v0 v1 v2 v3 v4; have hl4 : w.heap.size < w4.heap.size := h_lt hq4))
 all_goals
  have t := tok5 hq4 kd tx nm fr te;have hkf := t.2.2 w (HK.out.trans hkw jg) (Nat.le_refl _);have HF := zh hkf;clear hkf t hkw hr4 hq4 u0 u1 u2 u3 u4 hk4
  go_wp2_with fail
  exact bodyPost_ret (v := .tuple #[.agg #[.int .i64 kd, .string tx, .float .f64 nm, .int .i64 fr, .int .i64 te], .complex .f64 p1 p2]) (by simp [results, rsA, go_sem, v0, v1, v2, v3, v4]) rfl ⟨rfl, HF.out⟩
mutual
inductive NodeR (w : World) (S : Nat → Prop) : Node → Value → Prop
 | mk {kind : Int} {name : ByteArray} {num : Nat} {kids : List Node} {re im : Nat} {kv : Value} (h : KidsR w S kids kv) :
    NodeR w S (.mk kind name num kids re im) (.agg #[.int .i64 kind, .string name, .float .f64 num, kv, .complex .f64 re im])
inductive KidsR (w : World) (S : Nat → Prop) : List Node → Value → Prop
 | nil {a : Option Addr} {cap : Nat} : KidsR w S [] (.slice a 0 cap)
 | some {n : Node} {ns : List Node} {g o cap : Nat} (hS : S g) (hg : g < w.heap.size) (h : RowR w S g o (n :: ns)) : KidsR w S (n :: ns) (.slice (some ⟨g, o, none⟩) (ns.length + 1) cap)
inductive RowR (w : World) (S : Nat → Prop) : Nat → Nat → List Node → Prop
 | nil {g o : Nat} : RowR w S g o []
 | cons {g o : Nat} {n : Node} {ns : List Node} {c0 c1 c2 c3 c4 : Value} (hn : NodeR w S n (.agg #[c0, c1, c2, c3, c4])) (h0 : w.cell? ⟨g, o, none⟩ = some c0) (h1 : w.cell? ⟨g, o + 1, none⟩ = some c1)
    (h2 : w.cell? ⟨g, o + 2, none⟩ = some c2) (h3 : w.cell? ⟨g, o + 3, none⟩ = some c3) (h4 : w.cell? ⟨g, o + 4, none⟩ = some c4) (hr : RowR w S g (o + 5) ns) : RowR w S g o (n :: ns)
end
mutual
theorem NodeR.keep {w w' : World} {S T : Nat → Prop} {fp : List Nat} (hk : Keeps fp w w') (hf : ∀ x ∈ fp, ¬ S x) (hT : ∀ x, S x → T x) {n : Node} {v : Value} (h : NodeR w S n v) : NodeR w' T n v := by
 cases h with
 | mk h => exact .mk (KidsR.keep hk hf hT h)
theorem KidsR.keep {w w' : World} {S T : Nat → Prop} {fp : List Nat} (hk : Keeps fp w w') (hf : ∀ x ∈ fp, ¬ S x) (hT : ∀ x, S x → T x) {ns : List Node} {v : Value} (h : KidsR w S ns v) : KidsR w' T ns v := by
 cases h with
 | nil => exact .nil
 | some hS hg h => exact .some (hT _ hS) (Nat.lt_of_lt_of_le hg hk.size) (RowR.keep hk hf hT hS hg h)
theorem RowR.keep {w w' : World} {S T : Nat → Prop} {fp : List Nat} (hk : Keeps fp w w') (hf : ∀ x ∈ fp, ¬ S x) (hT : ∀ x, S x → T x) {g o : Nat} (hS : S g) (hg : g < w.heap.size) {ns : List Node} (h : RowR w S g o ns) : RowR w' T g o ns := by
 cases h with
 | nil => exact .nil
 | cons hn h0 h1 h2 h3 h4 hr =>
  have hc : ∀ i v, w.cell? ⟨g, i, none⟩ = some v → w'.cell? ⟨g, i, none⟩ = some v := fun i v h => by
   rw [World.cell?_of_block (w := w) (a := ⟨g, i, none⟩) (hk.block g hg fun hm => hf g hm hS)]; exact h
  exact .cons (NodeR.keep hk hf hT hn) (hc _ _ h0) (hc _ _ h1) (hc _ _ h2) (hc _ _ h3) (hc _ _ h4) (RowR.keep hk hf hT hS hg hr)
end
theorem NodeR.keep0 {w w' : World} {S : Nat → Prop} (hk : Keeps [] w w') {n : Node} {v : Value} (h : NodeR w S n v) : NodeR w' S n v := h.keep hk jg fun _ h => h
theorem KidsR.slice {w : World} {S : Nat → Prop} {ns : List Node} {v : Value} (h : KidsR w S ns v) : ∃ a l cap, v = .slice a l cap := by
 cases h with
 | nil => exact ⟨_, _, _, rfl⟩
 | some hS hg h => exact ⟨_, _, _, rfl⟩
theorem NodeR.shape {w : World} {S : Nat → Prop} {n : Node} {v : Value} (h : NodeR w S n v) : ∃ name num a l cap re im, v = .agg #[.int .i64 n.kind, .string name, .float .f64 num, .slice a l cap, .complex .f64 re im] ∧ re = n.re ∧ im = n.im := by
 cases h with
 | mk h =>
  obtain ⟨a, l, cap, rfl⟩ := h.slice;exact ⟨_, _, _, _, _, _, _, rfl, rfl, rfl⟩
set_option maxHeartbeats 1000000 in
theorem lvalue_any {w : World} {S : Nat → Prop} {n : Node} {v : Value} (h : NodeR w S n v) : Calls Tryz.prog 131 #[v] w fun r w' => r = .returned (.bool (lval n)) ∧ Keeps [] w w' := by
 obtain ⟨name, num, a, l, cap, re, im, rfl, _, _⟩ := h.shape;have hl : lval n = (n.kind == 4 || n.kind == 5 || n.kind == 6) := rfl;rw [hl];generalize n.kind = k at *
 clear hl h
 by_cases h4 : k = 4
 ·subst h4;exact qtd
 have n4 : (k == 4) = false := beq_false_of_ne h4
 by_cases h5 : k = 5
 ·subst h5;exact qtd
 have n5 : (k == 5) = false := beq_false_of_ne h5;rw [n4, n5];clear h4 h5;exact qtd
abbrev nodC (kd : Int) (tx : ByteArray) (nm : Nat) (kv : Value) (re im : Nat) : Obj := .cells #[.int .i64 kd, .string tx, .float .f64 nm, kv, .complex .f64 re im] 50
theorem nod5 (W : World) (b : Nat) (kd : Int) (tx : ByteArray) (nm : Nat) (kv : Value) (re im : Nat) : Keeps [b] W (((((W.setCell ⟨b, 0, none⟩ (.int .i64 kd)).setCell ⟨b, 1, none⟩ (.string tx)).setCell ⟨b, 2, none⟩ (.float .f64 nm)).setCell ⟨b, 3, none⟩ kv).setCell ⟨b, 4, none⟩ (.complex .f64 re im)) :=
 ((((Keeps.setCell [b] W _ _ jg).trans (Keeps.setCell [b] _ _ _ jg) jg).trans (Keeps.setCell [b] _ _ _ jg) jg).trans (Keeps.setCell [b] _ _ _ jg) jg).trans (Keeps.setCell [b] _ _ _ jg) jg
def Hands (s : ByteArray) (p : Nat) (st st' : PSt) (n : Node) (f : FuncId) : Prop :=
 ∀ w, PP s p st w → Calls Tryz.prog f #[.pointer (some ⟨p, 0, none⟩)] w fun r w' => ∃ v, r = .returned v ∧ NodeR w' (fun g => w.heap.size ≤ g) n v ∧ PP s p st' w' ∧ Keeps [p] w w'
theorem one_none {s : ByteArray} {p : Nat} {st : PSt} {w : World} (h : PP s p st w) {sg : ByteArray} (hx : noneF s st sg = some ()) (hsg : sg.size ≤ 1000000) : Calls Tryz.prog 132 #[.pointer (some ⟨p, 0, none⟩), .string sg] w fun r w' => r = .returned (.tuple #[.string ⟨#[]⟩, .complex .f64 0 0, .bool false]) ∧ Keeps [] w w' := by
 unfold noneF oneF at hx
 cases ht : nextF s st.pos false with
 | none => rw [ht] at hx; simp at hx
 | some t =>
  rw [ht] at hx;simp only [Option.bind_eq_bind, Option.bind_some] at hx
  by_cases h9 : t.kind = 9
  ·cases ha : among sg t.text
   ·exact one_no2 h ht sg hsg h9 ha
   rw [show (t.kind == 9) = true from by simp [h9], ha] at hx;simp at hx
  exact one_no1 h ht sg hsg h9
theorem power_lv {s : ByteArray} {p : Nat} {st st' : PSt} {n : Node} (hsub : Hands s p st st' n 290) (hno : noneF s st' ⟨#[94]⟩ = some ()) : Hands s p st st' n 288 := by
 intro w h;have hlt := h_lt h.row;have H := zh h; have HS := zh hsub; have HN := zh hno;clear h hsub hno
 go_enter Tryz.func288, Tryz.ntmps288
 exact qjd
theorem cond_lv {s : ByteArray} {p : Nat} {st st' : PSt} {n : Node} (hsub : Hands s p st st' n 170) (hno : noneF s st' ⟨#[63]⟩ = some ()) : Hands s p st st' n 130 := by
 intro w h;have hlt := h_lt h.row;have H := zh h; have HS := zh hsub; have HN := zh hno;clear h hsub hno
 go_enter Tryz.func130, Tryz.ntmps130
 exact qjd
theorem product_lv {s : ByteArray} {p : Nat} {st st' : PSt} {n : Node} (hsub : Hands s p st st' n 286) (hno : noneF s st' ⟨#[42, 32, 47, 32, 37]⟩ = some ()) : Hands s p st st' n 281 := by
 intro w h;have hlt := h_lt h.row;have H := zh h; have HS := zh hsub; have HN := zh hno;clear h hsub hno
 go_enter Tryz.func281, Tryz.ntmps281
 exact jbd
theorem or_lv {s : ByteArray} {p : Nat} {st st' : PSt} {n : Node} (hsub : Hands s p st st' n 193) (hno : noneF s st' ⟨#[124, 124]⟩ = some ()) : Hands s p st st' n 170 := by
 intro w h;have hlt := h_lt h.row;have H := zh h; have HS := zh hsub; have HN := zh hno;clear h hsub hno
 go_enter Tryz.func170, Tryz.ntmps170
 exact jbd
theorem and_lv {s : ByteArray} {p : Nat} {st st' : PSt} {n : Node} (hsub : Hands s p st st' n 226) (hno : noneF s st' ⟨#[38, 38]⟩ = some ()) : Hands s p st st' n 193 := by
 intro w h;have hlt := h_lt h.row;have H := zh h; have HS := zh hsub; have HN := zh hno;clear h hsub hno
 go_enter Tryz.func193, Tryz.ntmps193
 exact jbd
theorem match_lv {s : ByteArray} {p : Nat} {st st' : PSt} {n : Node} (hsub : Hands s p st st' n 266) (hno : noneF s st' ⟨#[126, 32, 33, 126]⟩ = some ()) : Hands s p st st' n 256 := by
 intro w h;have hlt := h_lt h.row;have H := zh h; have HS := zh hsub; have HN := zh hno;clear h hsub hno
 go_enter Tryz.func256, Tryz.ntmps256
 exact jbd
theorem is_not {s : ByteArray} {p : Nat} {st : PSt} {w : World} (h : PP s p st w) {x : ByteArray} (hx : notF s st x = some ()) : Calls Tryz.prog 64 #[.pointer (some ⟨p, 0, none⟩), .string x] w fun r w' => r = .returned (.bool false) ∧ Keeps [] w w' := by
 unfold notF isF at hx
 cases ht : nextF s st.pos false with
 | none => rw [ht] at hx; simp at hx
 | some t =>
  rw [ht] at hx;simp only [Option.bind_eq_bind, Option.bind_some] at hx;have hi := is_any h ht x
  cases hb : isT t x
  ·rw [hb] at hi; exact hi
  rw [hb] at hx; simp at hx
theorem unary_lv {s : ByteArray} {p : Nat} {st st' : PSt} {n : Node} (h0 : noneF s st ⟨#[33, 32, 45, 32, 43]⟩ = some ()) (hsub : Hands s p st st' n 288) : Hands s p st st' n 286 := by
 intro w h;have hlt := h_lt h.row;have h14 := h.p;have HP0 := zh (h.keep (Keeps.alloc [] w (nodC 0 ⟨#[]⟩ 0 (.slice none 0 0) 0 0))); have HQ0 := zh (h_new w (nodC 0 ⟨#[]⟩ 0 (.slice none 0 0) 0 0)); have HK0 := zh (Keeps.alloc [] w (nodC 0 ⟨#[]⟩ 0 (.slice none 0 0) 0 0));have HS := zh hsub; have HH0 := zh h0;clear h hsub h0
 go_enter Tryz.func286, Tryz.ntmps286
 go_wp2_with fail
 generalize w.alloc (nodC 0 ⟨#[]⟩ 0 (.slice none 0 0) 0 0) = w0 at *
 refine (one_none HP0.out HH0.out zi).mono ?_;rintro r w1 ⟨rfl, hk1⟩;have HP1 := zh (HP0.out.keep hk1); have HQ1 := zh (hk1.at HQ0.out jg); have HK1 := zh (HK0.out.trans hk1 jg);clear hk1
 go_wp2_with fail
 refine (HS.out _ HP1.out).mono ?_;rintro r w9 ⟨v, rfl, hn', hp9, hk9⟩;have hsz : w.heap.size < w1.heap.size := h_lt HQ1.out;have hn : NodeR w9 (fun g => w.heap.size < g) n v := hn'.keep (Keeps.refl [] w9) jg (fun x hx => Nat.lt_of_lt_of_le hsz hx);have hq3 := hk9.at HQ1.out qi;obtain ⟨tx, nm, a, l, cap, re, im, rfl, -, -⟩ := hn.shape;generalize hkd : n.kind = kd at *
 have HN3 := zh hn; have HP3 := zh hp9; have HK3 := zh ((HK1.out.weaken (fp' := [p]) jg).trans hk9 jg);have hl3 : w.heap.size < w9.heap.size := h_lt hq3;have q0 := cell_of_heap hq3 0;have q1 := cell_of_heap hq3 1;have q2 := cell_of_heap hq3 2;have q3 := cell_of_heap hq3 3;have q4 := cell_of_heap hq3 4;have qf0 := frozen_of_heap hq3 0;have qf1 := frozen_of_heap hq3 1;have qf2 := frozen_of_heap hq3 2;have qf3 := frozen_of_heap hq3 3;have qf4 := frozen_of_heap hq3 4;simp at q0 q1 q2 q3 q4;clear hn hn' hp9 hk9 hq3
 go_wp2_with fail
 have t5 := nod5 w9 w.heap.size kd tx nm (.slice a l cap) re im;refine bodyPost_ret (v := .agg #[.int .i64 kd, .string tx, .float .f64 nm, .slice a l cap, .complex .f64 re im]) qk rfl ⟨_, rfl, ?_, ?_, ?_⟩
 ·exact qlb
 ·exact zmb
 exact jmb
theorem primary_lv {s : ByteArray} {p : Nat} {st st' : PSt} {n : Node} (h0 : noneF s st ⟨#[43, 43, 32, 45, 45]⟩ = some ()) (h1 : notF s st ⟨#[40]⟩ = some ()) (hsub : Hands s p st st' n 294) : Hands s p st st' n 292 := by
 intro w h;have hlt := h_lt h.row;have h14 := h.p;have HP0 := zh (h.keep (Keeps.alloc [] w (nodC 0 ⟨#[]⟩ 0 (.slice none 0 0) 0 0))); have HQ0 := zh (h_new w (nodC 0 ⟨#[]⟩ 0 (.slice none 0 0) 0 0)); have HK0 := zh (Keeps.alloc [] w (nodC 0 ⟨#[]⟩ 0 (.slice none 0 0) 0 0));have HS := zh hsub; have HH0 := zh h0; have HH1 := zh h1;clear h hsub h0 h1
 go_enter Tryz.func292, Tryz.ntmps292
 go_wp2_with fail
 generalize w.alloc (nodC 0 ⟨#[]⟩ 0 (.slice none 0 0) 0 0) = w0 at *
 refine qmb ?_;rintro r w' ⟨rfl, hw'⟩;rw [hw'];clear hw'
 go_wp2_with fail
 exact jgd
theorem dollar_lv {s : ByteArray} {p : Nat} {st st' : PSt} {n : Node} (h0 : noneF s st ⟨#[43, 43, 32, 45, 45]⟩ = some ()) (h1 : notF s st ⟨#[40]⟩ = some ()) (hsub : Hands s p st st' n 294) : Hands s p st st' n 296 := by
 intro w h;have hlt := h_lt h.row;have h14 := h.p;have HP0 := zh (h.keep (Keeps.alloc [] w (nodC 0 ⟨#[]⟩ 0 (.slice none 0 0) 0 0))); have HQ0 := zh (h_new w (nodC 0 ⟨#[]⟩ 0 (.slice none 0 0) 0 0)); have HK0 := zh (Keeps.alloc [] w (nodC 0 ⟨#[]⟩ 0 (.slice none 0 0) 0 0));have HS := zh hsub; have HH0 := zh h0; have HH1 := zh h1;clear h hsub h0 h1
 go_enter Tryz.func296, Tryz.ntmps296
 go_wp2_with fail
 generalize w.alloc (nodC 0 ⟨#[]⟩ 0 (.slice none 0 0) 0 0) = w0 at *
 exact jgd
end Go.Proofs.YtkfillfkbhbbjaaGreatDoor
