/- NSpecW, PLa, PLb, PLc. -/
import Derived.Test.YtkfillfkbhbbjaaGreatDoorNSpec
set_option maxRecDepth 100000
set_option maxHeartbeats 4000000
set_option linter.unusedSimpArgs false
set_option linter.unusedVariables false
namespace Go.Proofs.YtkfillfkbhbbjaaGreatDoor
def forF (lp : Bool) (i : Nat) (st : NS) (k : Node) : NS := if lp = true ∧ i % 2 = 0 ∧ (k.kind = 36 ∨ k.kind = 37) then faultF st k.re k.im 32 else st
def kidsW (rec : NRec) (lp : Bool) : Nat → List Node → NS → Option NS
 | _, [], st => some st
 | i, k :: l, st => do
   let st ← rec (forF lp i st k) k
   kidsW rec lp (i + 1) l st
def preW (g : ProgP) (st : NS) (n : Node) : Option NS :=
 if n.kind = 4 then useF (ofF g (namedF g st n) n.name).2 ⟨n.re, n.im, (ofF g (namedF g st n) n.name).1, false, noT, false, false⟩
 else if n.kind = 5 ∨ n.kind = 11 ∨ n.kind = 41 ∨ n.kind = 35 then useF (ofF g (namedF g st n) n.name).2 ⟨n.re, n.im, (ofF g (namedF g st n) n.name).1, true, noT, false, false⟩
 else if n.kind = 38 then some (if st.fn > 0 ∨ (st.rule ≠ 5 ∧ st.rule ≠ 6 ∧ st.rule ≠ 7) then faultF st n.re n.im 32 else st)
 else if n.kind = 40 then some (if st.fn = 0 then faultF st n.re n.im 32 else st)
 else if n.kind = 36 ∨ n.kind = 37 then some (if st.loops = 0 then faultF st n.re n.im 32 else st)
 else some st
def nSplit : ByteArray := bs [115, 112, 108, 105, 116]
def nExpire : ByteArray := bs [101, 120, 112, 105, 114, 101]
def nSub : ByteArray := bs [115, 117, 98]
def nGsub : ByteArray := bs [103, 115, 117, 98]
def nLength : ByteArray := bs [108, 101, 110, 103, 116, 104]
def arrAt (name : ByteArray) : Int := if name = nSplit then 1 else if name = nExpire then 0 else -1
def arrF (g : ProgP) (rec : NRec) (st : NS) (k : Node) : Option NS :=
 if k.kind = 4 then useF (ofF g (namedF g st k) k.name).2 ⟨k.re, k.im, (ofF g (namedF g st k) k.name).1, true, noT, false, false⟩
 else do
  let st ← useF st ⟨k.re, k.im, noT, false, noT, false, true⟩
  rec st k
def bltF (g : ProgP) (rec : NRec) (arr : Int) : Nat → List Node → NS → Option NS
 | _, [], st => some st
 | i, k :: l, st => do
   let st ← (if (i : Int) = arr then arrF g rec st k else rec st k)
   bltF g rec arr (i + 1) l st
def subF (name : ByteArray) (st : NS) : List Node → NS
 | [_, _, k] => if (name = nSub ∨ name = nGsub) ∧ lval k = false then faultF st k.re k.im 31 else st
 | _ => st
def lenF (g : ProgP) (name : ByteArray) (st : NS) : List Node → Option NS
 | [k] => if name = nLength ∧ k.kind = 4 then some (ofF g (namedF g st k) k.name).2 else none
 | _ => none
def builtF (g : ProgP) (rec : NRec) (st : NS) (name : ByteArray) (kids : List Node) (re im : Nat) : Option NS :=
 if kids.length < (countsF name).1 ∨ (countsF name).2 < kids.length then some (faultF st re im 31)
 else match lenF g name st kids with
  | some st' => some st'
  | none => bltF g rec (arrAt name) 0 kids (subF name st kids)
def loopK (k : Int) : Bool := k == 32 || k == 33 || k == 34 || k == 35
def stepW (g : ProgP) (rec : NRec) (st : NS) (n : Node) : Option NS :=
 if 1000000 < n.kids.length then none
 else if n.kind = 19 then
  if flook g n.name = 0 then some (faultF st n.re n.im 28)
  else if (paramsOf g (flook g n.name)).length < n.kids.length then some (faultF st n.re n.im 31)
  else callF g rec (flook g n.name) (paramsOf g (flook g n.name)) n.kids st
 else if n.kind = 20 then builtF g rec st n.name n.kids n.re n.im
 else do
  let st ← preW g st n
  if loopK n.kind = true then
   if st.loops < 0 ∨ 900000 < st.loops then none else do
    let st ← kidsW rec (n.kind == 34) 0 n.kids { st with loops := st.loops + 1 }
    if st.loops < 0 ∨ 900001 < st.loops then none else some { st with loops := st.loops - 1 }
  else kidsW rec false 0 n.kids st
theorem preW_mk (g : ProgP) (st : NS) (kd : Int) (tx : ByteArray) (fm : Nat) (kids : List Node) (re im : Nat) : preW g st (.mk kd tx fm kids re im) =
 if kd = 4 then useF (ofF g (namedF g st (.mk kd tx fm kids re im)) tx).2 ⟨re, im, (ofF g (namedF g st (.mk kd tx fm kids re im)) tx).1, false, noT, false, false⟩
 else if kd = 5 ∨ kd = 11 ∨ kd = 41 ∨ kd = 35 then useF (ofF g (namedF g st (.mk kd tx fm kids re im)) tx).2 ⟨re, im, (ofF g (namedF g st (.mk kd tx fm kids re im)) tx).1, true, noT, false, false⟩
 else if kd = 38 then some (if st.fn > 0 ∨ (st.rule ≠ 5 ∧ st.rule ≠ 6 ∧ st.rule ≠ 7) then faultF st re im 32 else st)
 else if kd = 40 then some (if st.fn = 0 then faultF st re im 32 else st)
 else if kd = 36 ∨ kd = 37 then some (if st.loops = 0 then faultF st re im 32 else st)
 else some st := rfl
theorem stepW_mk (g : ProgP) (rec : NRec) (st : NS) (kd : Int) (tx : ByteArray) (fm : Nat) (kids : List Node) (re im : Nat) : stepW g rec st (.mk kd tx fm kids re im) =
 if 1000000 < kids.length then none
 else if kd = 19 then
  if flook g tx = 0 then some (faultF st re im 28)
  else if (paramsOf g (flook g tx)).length < kids.length then some (faultF st re im 31)
  else callF g rec (flook g tx) (paramsOf g (flook g tx)) kids st
 else if kd = 20 then builtF g rec st tx kids re im
 else (preW g st (.mk kd tx fm kids re im)).bind fun st =>
  if loopK kd = true then
   if st.loops < 0 ∨ 900000 < st.loops then none else (kidsW rec (kd == 34) 0 kids { st with loops := st.loops + 1 }).bind fun st =>
    if st.loops < 0 ∨ 900001 < st.loops then none else some { st with loops := st.loops - 1 }
  else kidsW rec false 0 kids st := rfl
def nodeW (g : ProgP) : Nat → NRec
 | 0 => fun _ _ => none
 | f + 1 => stepW g (nodeW g f)
def wAll (fu : Nat) (g : ProgP) (st : NS) : Option NS := if st.e = 0 then do
  let st ← allR (nodeW g fu) g.rules st
  allF (nodeW g fu) 0 g.funcs st
 else some st
def wCheck (fu : Nat) (g : ProgP) : Option Told := if smallB g = false then none else do
 let st ← wAll fu g (headsA g 0 g.funcs ns0)
 if 400000 < st.uses.length ∨ 400000 < st.seen.length then none else do
  let st ← nArr st
  nRest st g
end Go.Proofs.YtkfillfkbhbbjaaGreatDoor
namespace Go.Proofs.YtkfillfkbhbbjaaGreatDoor
inductive Ev where
 | see (t : Thing) (re im : Nat)
 | use (t : Thing) (arr : Bool) (re im : Nat)
 | kid (p : Thing) (re im : Nat)
 | bad (re im : Nat)
 | link (a p : Thing) (re im : Nat)
 | reg (t : Thing)
def resT (g : ProgP) (fn : Nat) (name : ByteArray) : Thing := if fn > 0 ∧ memB name (paramsOf g fn) = true then (fn, name) else (0, name)
def nSee (st : NS) (t : Thing) : NS := if t.1 = 0 then seePut st t else st
def nEv (st : NS) : Ev → Option NS
 | .see t _ _ => some (nSee st t)
 | .use t arr re im => useF (nSee st t) ⟨re, im, t, arr, noT, false, false⟩
 | .kid p re im => useF st ⟨re, im, noT, false, p, true, false⟩
 | .bad re im => useF st ⟨re, im, noT, false, noT, false, true⟩
 | .link a p _ _ => (rootN (nSee st a) a).bind fun ra => (rootN (nSee st a) p).bind fun rb => some (if teq ra rb then nSee st a else { nSee st a with same := (nSee st a).same ++ [(ra, rb)] })
 | .reg _ => some st
def lenB (nm : ByteArray) : List Node → Bool
 | [k] => decide (nm = nLength) && k.kind == 4
 | _ => false
def lenE (g : ProgP) (fn : Nat) : List Node → List Ev
 | [k] => [.see (resT g fn k.name) k.re k.im]
 | _ => []
def preE (g : ProgP) (fn : Nat) (k : Int) (nm : ByteArray) (re im : Nat) : List Ev :=
 if k = 4 then [.use (resT g fn nm) false re im] else if k = 5 ∨ k = 11 ∨ k = 41 ∨ k = 35 then [.use (resT g fn nm) true re im] else []
mutual
def evN (g : ProgP) (fn : Nat) : Node → List Ev
 | .mk k nm _ kids re im =>
  if k = 19 then evC g fn (flook g nm) (paramsOf g (flook g nm)) kids
  else if k = 20 then if lenB nm kids = true then lenE g fn kids else evB g fn (arrAt nm) 0 kids
  else preE g fn k nm re im ++ evK g fn kids
def evK (g : ProgP) (fn : Nat) : List Node → List Ev
 | [] => []
 | k :: l => evN g fn k ++ evK g fn l
def evC (g : ProgP) (fn : Nat) (f : Nat) : List ByteArray → List Node → List Ev
 | _, [] => []
 | [], _ :: _ => []
 | p :: ps, k :: l => (if k.kind = 4 then [.link (resT g fn k.name) (f, p) k.re k.im] else .kid (f, p) k.re k.im :: evN g fn k) ++ evC g fn f ps l
def evB (g : ProgP) (fn : Nat) (arr : Int) : Nat → List Node → List Ev
 | _, [] => []
 | i, k :: l => (if (i : Int) = arr then (if k.kind = 4 then [.use (resT g fn k.name) true k.re k.im] else .bad k.re k.im :: evN g fn k) else evN g fn k) ++ evB g fn arr (i + 1) l
end
/-! ### faults -/
abbrev Flt := Int × Nat × Nat
def fltS (st : NS) : Option Flt := if st.e = 0 then none else some (st.e, st.re, st.im)
def isName (k : Int) : Bool := k == 4 || k == 5 || k == 11 || k == 41 || k == 35
def subX (nm : ByteArray) : List Node → Option Flt
 | [_, _, k] => if (nm = nSub ∨ nm = nGsub) ∧ lval k = false then some (31, k.re, k.im) else none
 | _ => none
def fltB (g : ProgP) (fn : Nat) (kd lo : Int) (k : Int) (nm : ByteArray) (kids : List Node) (re im : Nat) : Option Flt :=
 if isName k = true then (if flook g nm > 0 then some (28, re, im) else none)
 else if k = 19 then (if flook g nm = 0 then some (28, re, im) else if (paramsOf g (flook g nm)).length < kids.length then some (31, re, im) else none)
 else if k = 20 then
  if kids.length < (countsF nm).1 ∨ (countsF nm).2 < kids.length then some (31, re, im)
  else subX nm kids
 else if k = 38 then (if fn > 0 ∨ (kd ≠ 5 ∧ kd ≠ 6 ∧ kd ≠ 7) then some (32, re, im) else none)
 else if k = 40 then (if fn = 0 then some (32, re, im) else none)
 else if k = 36 ∨ k = 37 then (if lo = 0 then some (32, re, im) else none)
 else none
def forX (lp : Bool) (i : Nat) (k : Node) : Option Flt := if lp = true ∧ i % 2 = 0 ∧ (k.kind = 36 ∨ k.kind = 37) then some (32, k.re, k.im) else none
mutual
def fltN (g : ProgP) (fn : Nat) (kd : Int) (lo : Int) : Node → Option Flt
 | .mk k nm _ kids re im => (fltB g fn kd lo k nm kids re im).or (fltK g fn kd (if loopK k then lo + 1 else lo) (k == 34) 0 kids)
def fltK (g : ProgP) (fn : Nat) (kd : Int) (lo : Int) (lp : Bool) : Nat → List Node → Option Flt
 | _, [] => none
 | i, k :: l => ((forX lp i k).or (fltN g fn kd lo k)).or (fltK g fn kd lo lp (i + 1) l)
end
mutual
def wfN : Node → Prop
 | .mk k _ _ kids _ _ => (k = 4 → kids = []) ∧ wfK kids
def wfK : List Node → Prop
 | [] => True
 | k :: l => wfN k ∧ wfK l
end
end Go.Proofs.YtkfillfkbhbbjaaGreatDoor
namespace Go.Proofs.YtkfillfkbhbbjaaGreatDoor
theorem or_assoc' {α : Type} (a b c : Option α) : (a.or b).or c = a.or (b.or c) := by cases a <;> rfl
theorem or_none' {α : Type} (a : Option α) : a.or none = a := by cases a <;> rfl
def SameC (st st' : NS) : Prop := st'.fn = st.fn ∧ st'.rule = st.rule ∧ st'.loops = st.loops
theorem SameC.refl (st : NS) : SameC st st := ⟨rfl, rfl, rfl⟩
theorem SameC.trans {a b c : NS} (h : SameC a b) (k : SameC b c) : SameC a c := ⟨k.1.trans h.1, k.2.1.trans h.2.1, k.2.2.trans h.2.2⟩
def Came (st st' : NS) (x : Option Flt) : Prop := SameC st st' ∧ fltS st' = (fltS st).or x
theorem Came.nil {st st' : NS} (h : SameC st st') (k : fltS st' = fltS st) : Came st st' none := ⟨h, by rw [k, or_none']⟩
theorem Came.refl (st : NS) : Came st st none := Came.nil (SameC.refl _) rfl
theorem Came.trans {a b c : NS} {x y : Option Flt} (h : Came a b x) (k : Came b c y) : Came a c (x.or y) := ⟨h.1.trans k.1, by rw [k.2, h.2, or_assoc']⟩
theorem Came.trans0 {a b c : NS} {x : Option Flt} (h : Came a b x) (k : Came b c none) : Came a c x := by have := h.trans k; rwa [or_none'] at this
theorem came_fault (st : NS) (re im : Nat) {e : Int} (he : e ≠ 0) : Came st (faultF st re im e) (some (e, re, im)) := by
 unfold faultF
 by_cases h : st.e = 0
 ·rw [if_pos h]; exact ⟨⟨rfl, rfl, rfl⟩, by simp [fltS, h, he]⟩
 rw [if_neg h]; exact ⟨SameC.refl _, by simp [fltS, h]⟩
theorem came_see (st : NS) (t : Thing) : Came st (seePut st t) none := Came.nil ⟨rfl, rfl, rfl⟩ rfl
theorem came_of (g : ProgP) (st : NS) (name : ByteArray) : Came st (ofF g st name).2 none := by
 unfold ofF; split
 ·exact qnb
 exact came_see _ _
theorem came_use {st st' : NS} {u : Use} (h : useF st u = some st') : Came st st' none := by
 unfold useF at h; split at h
 ·cases h; exact Came.nil ⟨rfl, rfl, rfl⟩ rfl
 cases h
theorem came_named (g : ProgP) (st : NS) (n : Node) : Came st (namedF g st n) (if flook g n.name > 0 then some (28, n.re, n.im) else none) := by
 unfold namedF; split
 ·exact zob
 exact qnb
theorem came_for (lp : Bool) (i : Nat) (st : NS) (k : Node) : Came st (forF lp i st k) (forX lp i k) := by
 unfold forF forX; split
 ·exact zob
 exact qnb
theorem came_same {st st' : NS} {m : List (Thing × Thing)} (h : { st with same := m } = st') : Came st st' none := by subst h; exact Came.nil ⟨rfl, rfl, rfl⟩ rfl
def RecF (g : ProgP) (rec : NRec) : Prop := ∀ n st st', wfN n → rec st n = some st' → Came st st' (fltN g st.fn st.rule st.loops n)
theorem fltN_var {g : ProgP} {fn : Nat} {kd lo : Int} {n : Node} (hw : wfN n) (h : n.kind = 4) : fltN g fn kd lo n = if flook g n.name > 0 then some (28, n.re, n.im) else none := by
 obtain ⟨k, nm, x, kids, re, im⟩ := n;simp only [Node.kind] at h;subst h;rw [wfN] at hw;obtain ⟨hk, -⟩ := hw;rw [hk rfl, fltN, fltK, or_none']
 rfl
theorem forX_no (i : Nat) (k : Node) : forX false i k = none := by simp [forX]
theorem Came.to {st st' : NS} {x y : Option Flt} (h : Came st st' x) (e : x = y) : Came st st' y := e ▸ h
theorem kidsW_flt {g : ProgP} {rec : NRec} (hr : RecF g rec) (lp : Bool) : ∀ (l : List Node) (i : Nat) (st st' : NS), wfK l → kidsW rec lp i l st = some st' → Came st st' (fltK g st.fn st.rule st.loops lp i l)
 | [], i, st, st', _, h => by
   rw [kidsW] at h; cases h;rw [fltK]; exact Came.refl _
 | k :: l, i, st, st', hw, h => by
   rw [wfK] at hw;simp only [kidsW, Option.bind_eq_bind, Option.bind_eq_some_iff] at h;obtain ⟨s1, h1, h2⟩ := h;have c0 := came_for lp i st k;have c1 := hr k _ _ hw.1 h1;rw [c0.1.1, c0.1.2.1, c0.1.2.2] at c1;have c01 := c0.trans c1;have c2 := kidsW_flt hr lp l _ _ _ hw.2 h2;rw [c01.1.1, c01.1.2.1, c01.1.2.2] at c2;rw [fltK];exact c01.trans c2
theorem callF_flt {g : ProgP} {rec : NRec} (hr : RecF g rec) (f : Nat) : ∀ (l : List Node) (ps : List ByteArray) (i : Nat) (st st' : NS), wfK l → callF g rec f ps l st = some st' → Came st st' (fltK g st.fn st.rule st.loops false i l)
 | [], ps, i, st, st', _, h => by
   rw [callF] at h; cases h;rw [fltK]; exact Came.refl _
 | k :: l, [], i, st, st', hw, h => by rw [callF] at h; cases h
 | k :: l, p :: ps, i, st, st', hw, h => by
   rw [wfK] at hw;rw [callF] at h;rw [fltK, forX_no]
   by_cases h4 : k.kind = 4
   ·rw [if_neg (by simp [h4])] at h;simp only [Option.bind_eq_bind, Option.bind_eq_some_iff] at h;obtain ⟨ra, -, rb, -, h⟩ := h;have c1 := (came_named g st k).trans0 (came_of g _ k.name)
    have c2 : Came (ofF g (namedF g st k) k.name).2 (if teq ra rb then (ofF g (namedF g st k) k.name).2 else { (ofF g (namedF g st k) k.name).2 with same := (ofF g (namedF g st k) k.name).2.same ++ [(ra, rb)] }) none := by
     split
     ·exact qnb
     exact came_same rfl
    have c3 := c1.trans0 c2;have c4 := callF_flt hr f l ps (i + 1) _ _ hw.2 h;rw [c3.1.1, c3.1.2.1, c3.1.2.2] at c4;rw [fltN_var hw.1 h4];exact c3.trans c4
   rw [if_pos h4] at h;simp only [Option.bind_eq_bind, Option.bind_eq_some_iff] at h;obtain ⟨s1, h1, s2, h2, h⟩ := h;have c1 := came_use h1;have c2 := hr k _ _ hw.1 h2;rw [c1.1.1, c1.1.2.1, c1.1.2.2] at c2;have c3 := c1.trans c2;have c4 := callF_flt hr f l ps (i + 1) _ _ hw.2 h;rw [c3.1.1, c3.1.2.1, c3.1.2.2] at c4;exact c3.trans c4
theorem arrF_flt {g : ProgP} {rec : NRec} (hr : RecF g rec) {st st' : NS} {k : Node} (hw : wfN k) (h : arrF g rec st k = some st') : Came st st' (fltN g st.fn st.rule st.loops k) := by
 unfold arrF at h
 split at h
 ·rename_i h4;rw [fltN_var hw h4];exact ((came_named g st k).trans0 (came_of g _ k.name)).trans0 (came_use h)
 simp only [Option.bind_eq_bind, Option.bind_eq_some_iff] at h;obtain ⟨s1, h1, h2⟩ := h;have c1 := came_use h1;have c2 := hr k _ _ hw h2;rw [c1.1.1, c1.1.2.1, c1.1.2.2] at c2;exact c1.trans c2
theorem bltF_flt {g : ProgP} {rec : NRec} (hr : RecF g rec) (arr : Int) : ∀ (l : List Node) (i : Nat) (st st' : NS), wfK l → bltF g rec arr i l st = some st' → Came st st' (fltK g st.fn st.rule st.loops false i l)
 | [], i, st, st', _, h => by
   rw [bltF] at h; cases h;rw [fltK]; exact Came.refl _
 | k :: l, i, st, st', hw, h => by
   rw [wfK] at hw;simp only [bltF, Option.bind_eq_bind, Option.bind_eq_some_iff] at h;obtain ⟨s1, h1, h2⟩ := h
   have c1 : Came st s1 (fltN g st.fn st.rule st.loops k) := by
    split at h1
    ·exact arrF_flt hr hw.1 h1
    exact hr k _ _ hw.1 h1
   have c2 := bltF_flt hr arr l (i + 1) _ _ hw.2 h2;rw [c1.1.1, c1.1.2.1, c1.1.2.2] at c2;rw [fltK, forX_no];exact c1.trans c2
theorem came_sub (nm : ByteArray) (st : NS) (kids : List Node) : Came st (subF nm st kids) (subX nm kids) := by
 match kids with
 | [] => exact Came.refl _
 | [_] => exact Came.refl _
 | [_, _] => exact Came.refl _
 | [a, b, k] =>
  show Came st (if (nm = nSub ∨ nm = nGsub) ∧ lval k = false then faultF st k.re k.im 31 else st) (if (nm = nSub ∨ nm = nGsub) ∧ lval k = false then some (31, k.re, k.im) else none)
  split
  ·exact zob
  exact qnb
 | _ :: _ :: _ :: _ :: _ => exact Came.refl _
theorem builtF_flt {g : ProgP} {rec : NRec} (hr : RecF g rec) {st st' : NS} {nm : ByteArray} {kids : List Node} {re im : Nat} (hw : wfK kids) (h : builtF g rec st nm kids re im = some st') : Came st st' ((fltB g st.fn st.rule st.loops 20 nm kids re im).or (fltK g st.fn st.rule st.loops false 0 kids)) := by
 unfold builtF at h
 have hb : fltB g st.fn st.rule st.loops 20 nm kids re im = if kids.length < (countsF nm).1 ∨ (countsF nm).2 < kids.length then (some (31, re, im) : Option Flt)
  else subX nm kids := rfl
 rw [hb]
 split at h
 ·rename_i hc;rw [if_pos hc]
  cases h
  exact zob
 rename_i hc;rw [if_neg hc]
 split at h
 ·rename_i s1 hl
  cases h
  unfold lenF at hl
  split at hl
  ·rename_i k
   split at hl
   ·rename_i h4
    cases hl
    rw [wfK, wfK] at hw;show Came st _ ((none : Option Flt).or _);rw [fltK, fltK, forX_no, or_none', fltN_var hw.1 h4.2];exact (came_named g st k).trans0 (came_of g _ k.name)
   cases hl
  cases hl
 have c1 := came_sub nm st kids;have c2 := bltF_flt hr (arrAt nm) kids 0 _ _ hw h;rw [c1.1.1, c1.1.2.1, c1.1.2.2] at c2;exact c1.trans c2
theorem isName_false {k : Int} (h4 : k ≠ 4) (h : ¬ (k = 5 ∨ k = 11 ∨ k = 41 ∨ k = 35)) : isName k = false := by
 simp only [not_or] at h;simp [isName, h4, h]
theorem preW_flt {g : ProgP} {st st' : NS} {k : Int} {nm : ByteArray} {x : Nat} {kids : List Node} {re im : Nat} (h19 : k ≠ 19) (h20 : k ≠ 20) (h : preW g st (.mk k nm x kids re im) = some st') : Came st st' (fltB g st.fn st.rule st.loops k nm kids re im) := by
 rw [preW_mk] at h;unfold fltB
 split at h
 ·rename_i h4;rw [if_pos (by simp [isName, h4])];exact job
 rename_i h4
 split at h
 ·rename_i h5;rw [if_pos zdb];exact job
 rename_i h5;rw [if_neg (by rw [isName_false h4 h5]; simp), if_neg h19, if_neg h20]
 split at h
 ·rename_i h38;rw [if_pos h38]
  cases h
  split
  ·exact zob
  exact qnb
 rename_i h38;rw [if_neg h38]
 split at h
 ·rename_i h40;rw [if_pos h40]
  cases h
  split
  ·exact zob
  exact qnb
 rename_i h40;rw [if_neg h40]
 split at h
 ·rename_i h36;rw [if_pos h36]
  cases h
  split
  ·exact zob
  exact qnb
 rename_i h36;rw [if_neg h36]
 cases h
 exact qnb
theorem stepW_flt {g : ProgP} {rec : NRec} (hr : RecF g rec) : RecF g (stepW g rec) := by
 intro n st st' hw h;obtain ⟨k, nm, x, kids, re, im⟩ := n;rw [wfN] at hw;rw [fltN];rw [stepW_mk] at h
 split at h
 ·cases h
 split at h
 ·rename_i h19;subst h19;have hb : fltB g st.fn st.rule st.loops 19 nm kids re im = if flook g nm = 0 then (some (28, re, im) : Option Flt) else if (paramsOf g (flook g nm)).length < kids.length then some (31, re, im) else none := rfl
  rw [hb]
  split at h
  ·rename_i h0
   cases h
   rw [if_pos h0];exact zob
  rename_i h0;rw [if_neg h0]
  split at h
  ·rename_i h1
   cases h
   rw [if_pos h1];exact zob
  rename_i h1;rw [if_neg h1];exact callF_flt hr _ kids _ 0 _ _ hw.2 h
 rename_i h19
 split at h
 ·rename_i h20;subst h20;exact builtF_flt hr hw.2 h
 rename_i h20;simp only [Option.bind_eq_some_iff] at h;obtain ⟨s1, h1, h⟩ := h;have c1 := preW_flt h19 h20 h1
 split at h
 ·rename_i hl;rw [if_pos hl]
  split at h
  ·cases h
  simp only [Option.bind_eq_some_iff] at h;obtain ⟨s2, h2, h⟩ := h
  split at h
  ·cases h
  cases h
  have c2 := kidsW_flt hr _ kids 0 _ _ hw.2 h2;obtain ⟨⟨d1, d2, d3⟩, d4⟩ := c2;simp only at d1 d2 d3 d4;rw [c1.1.1, c1.1.2.1, c1.1.2.2] at d4;refine ⟨⟨d1.trans c1.1.1, d2.trans c1.1.2.1, ?_⟩, ?_⟩
  ·simp only;rw [d3, c1.1.2.2]; omega
  have e2 := d4;have e1 := c1.2;simp only [fltS] at e2 e1 ⊢;rw [e2, e1, or_assoc']
 rename_i hl;rw [if_neg hl]
 have h34 : (k == 34) = false := by
  simp only [loopK, Bool.or_eq_true, beq_iff_eq, not_or] at hl;simp [hl]
 rw [h34];have c2 := kidsW_flt hr _ kids 0 _ _ hw.2 h;rw [c1.1.1, c1.1.2.1, c1.1.2.2] at c2;exact c1.trans c2
theorem nodeW_flt (g : ProgP) : ∀ fu, RecF g (nodeW g fu)
 | 0 => fun _ _ _ _ h => by cases h
 | fu + 1 => stepW_flt (nodeW_flt g fu)
end Go.Proofs.YtkfillfkbhbbjaaGreatDoor
namespace Go.Proofs.YtkfillfkbhbbjaaGreatDoor
def evs (l : List Ev) (st : NS) : Option NS := l.foldlM nEv st
theorem evs_cons (x : Ev) (l : List Ev) (st : NS) : evs (x :: l) st = (nEv st x).bind (evs l) := by simp only [evs, List.foldlM_cons]; rfl
theorem evs_append (a b : List Ev) (st : NS) : evs (a ++ b) st = (evs a st).bind (evs b) := by simp only [evs, List.foldlM_append]; rfl
theorem evs_one (x : Ev) (st : NS) : evs [x] st = nEv st x := by rw [evs_cons]; cases nEv st x <;> rfl
theorem Option.or_eq_none' {α : Type} {a b : Option α} (h : a.or b = none) : a = none ∧ b = none := by cases a <;> simp_all [Option.or]
def setL (st : NS) (l : Int) : NS := { st with loops := l }
theorem nSee_setL (l : Int) (st : NS) (t : Thing) : nSee (setL st l) t = setL (nSee st t) l := by unfold nSee; split <;> rfl
theorem useF_setL (l : Int) (st : NS) (u : Use) : useF (setL st l) u = (useF st u).map (setL · l) := by
 show (if st.uses.length < 400000 then some (setL { st with uses := st.uses ++ [u] } l) else none) = (if st.uses.length < 400000 then some { st with uses := st.uses ++ [u] } else none).map (setL · l)
 split <;> rfl
theorem nEv_setL (l : Int) (x : Ev) (st : NS) : nEv (setL st l) x = (nEv st x).map (setL · l) := by
 cases x with
 | see t re im => exact congrArg some (nSee_setL l st t)
 | use t arr re im =>
  show useF (nSee (setL st l) t) _ = (useF (nSee st t) _).map _;rw [nSee_setL, useF_setL]
 | kid p re im => exact useF_setL l st _
 | bad re im => exact useF_setL l st _
 | link a p re im =>
  show (rootN (nSee (setL st l) a) a).bind (fun ra => (rootN (nSee (setL st l) a) p).bind fun rb => some (if teq ra rb then nSee (setL st l) a else { nSee (setL st l) a with same := (nSee (setL st l) a).same ++ [(ra, rb)] })) = _;rw [nSee_setL];show (rootN (nSee st a) a).bind (fun ra => (rootN (nSee st a) p).bind fun rb => some (if teq ra rb then setL (nSee st a) l else { setL (nSee st a) l with same := (nSee st a).same ++ [(ra, rb)] })) = ((rootN (nSee st a) a).bind fun ra => (rootN (nSee st a) p).bind fun rb => some (if teq ra rb then nSee st a else { nSee st a with same := (nSee st a).same ++ [(ra, rb)] })).map (setL · l);exact zud
 | reg t => rfl
theorem evs_setL (l : Int) : ∀ (x : List Ev) (st : NS), evs x (setL st l) = (evs x st).map (setL · l)
 | [], st => rfl
 | x :: xs, st => by
   rw [evs_cons, evs_cons, nEv_setL]
   cases nEv st x with
   | none => rfl
   | some s => exact evs_setL l xs s
theorem ofF_eq (g : ProgP) (st : NS) (name : ByteArray) : ofF g st name = (resT g st.fn name, nSee st (resT g st.fn name)) := by
 unfold ofF resT nSee
 by_cases h : st.fn > 0 ∧ memB name (paramsOf g st.fn) = true
 ·rw [if_pos h, if_pos h, if_neg (show ¬ (st.fn, name).1 = 0 by have := h.1; simp only; omega)]
 rw [if_neg h, if_neg h, if_pos rfl]
theorem named_eq {g : ProgP} {st : NS} {n : Node} (h : (if flook g n.name > 0 then some (28, n.re, n.im) else none : Option Flt) = none) : namedF g st n = st := by
 unfold namedF; split
 ·rename_i h0; rw [if_pos h0] at h; cases h
 rfl
theorem forF_eq {lp : Bool} {i : Nat} {st : NS} {k : Node} (h : forX lp i k = none) : forF lp i st k = st := by
 unfold forX at h; unfold forF
 split
 ·rename_i h0; rw [if_pos h0] at h; cases h
 rfl
def RecE (g : ProgP) (rec : NRec) : Prop := ∀ n st st', wfN n → rec st n = some st' → fltN g st.fn st.rule st.loops n = none → evs (evN g st.fn n) st = some st'
theorem kidsW_ev {g : ProgP} {rec : NRec} (hf : RecF g rec) (hr : RecE g rec) (lp : Bool) : ∀ (l : List Node) (i : Nat) (st st' : NS), wfK l → kidsW rec lp i l st = some st' → fltK g st.fn st.rule st.loops lp i l = none → evs (evK g st.fn l) st = some st'
 | [], i, st, st', _, h, _ => by
   rw [kidsW] at h; cases h;rw [evK]; rfl
 | k :: l, i, st, st', hw, h, h0 => by
   rw [wfK] at hw;rw [fltK] at h0;obtain ⟨h1, h2⟩ := Option.or_eq_none' h0;obtain ⟨h3, h4⟩ := Option.or_eq_none' h1;simp only [kidsW, Option.bind_eq_bind, Option.bind_eq_some_iff] at h;obtain ⟨s1, h5, h6⟩ := h;rw [forF_eq h3] at h5;have c1 := hf k _ _ hw.1 h5;have e1 := hr k _ _ hw.1 h5 h4;rw [← c1.1.1, ← c1.1.2.1, ← c1.1.2.2] at h2;have e2 := kidsW_ev hf hr lp l _ _ _ hw.2 h6 h2;rw [c1.1.1] at e2;rw [evK, evs_append, e1];exact e2
theorem callF_ev {g : ProgP} {rec : NRec} (hf : RecF g rec) (hr : RecE g rec) (f : Nat) : ∀ (l : List Node) (ps : List ByteArray) (i : Nat) (st st' : NS), wfK l → callF g rec f ps l st = some st' → fltK g st.fn st.rule st.loops false i l = none → evs (evC g st.fn f ps l) st = some st'
 | [], ps, i, st, st', _, h, _ => by
   rw [callF] at h; cases h;rw [evC]; rfl
 | k :: l, [], i, st, st', hw, h, _ => by rw [callF] at h; cases h
 | k :: l, p :: ps, i, st, st', hw, h, h0 => by
   rw [wfK] at hw;rw [fltK, forX_no] at h0;obtain ⟨h1, h2⟩ := Option.or_eq_none' h0;replace h1 : fltN g st.fn st.rule st.loops k = none := h1;rw [callF] at h;rw [evC, evs_append]
   by_cases h4 : k.kind = 4
   ·rw [if_neg (by simp [h4])] at h;rw [fltN_var hw.1 h4] at h1;simp only [named_eq h1, ofF_eq, Option.bind_eq_bind, Option.bind_eq_some_iff] at h;obtain ⟨ra, hra, rb, hrb, h⟩ := h;rw [if_pos h4, evs_one]
    have hn : nEv st (.link (resT g st.fn k.name) (f, p) k.re k.im) = some (if teq ra rb then nSee st (resT g st.fn k.name) else { nSee st (resT g st.fn k.name) with same := (nSee st (resT g st.fn k.name)).same ++ [(ra, rb)] }) := by
     simp only [nEv, hra, hrb, Option.bind_some]
    rw [hn]
    have c0 : Came st (nSee st (resT g st.fn k.name)) none := by
     unfold nSee; split
     ·exact came_see _ _
     exact qnb
    have c1 : Came st (if teq ra rb then nSee st (resT g st.fn k.name) else { nSee st (resT g st.fn k.name) with same := (nSee st (resT g st.fn k.name)).same ++ [(ra, rb)] }) none := by
     split
     ·exact c0
     exact c0.trans0 (came_same rfl)
    rw [← c1.1.1, ← c1.1.2.1, ← c1.1.2.2] at h2;have e2 := callF_ev hf hr f l ps (i + 1) _ _ hw.2 h h2;rw [c1.1.1] at e2;exact e2
   rw [if_pos h4] at h;simp only [Option.bind_eq_bind, Option.bind_eq_some_iff] at h;obtain ⟨s1, h5, s2, h6, h⟩ := h;have c1 := came_use h5;rw [← c1.1.1, ← c1.1.2.1, ← c1.1.2.2] at h1;have c2 := hf k _ _ hw.1 h6;have e1 := hr k _ _ hw.1 h6 h1;have c3 := c1.trans c2;rw [← c3.1.1, ← c3.1.2.1, ← c3.1.2.2] at h2;have e2 := callF_ev hf hr f l ps (i + 1) _ _ hw.2 h h2;rw [c3.1.1] at e2;rw [c1.1.1] at e1;have hn : nEv st (.kid (f, p) k.re k.im) = some s1 := h5;rw [if_neg h4, evs_cons, hn, Option.bind_some, e1];exact e2
theorem arrF_ev {g : ProgP} {rec : NRec} (hr : RecE g rec) {st st' : NS} {k : Node} (hw : wfN k) (h : arrF g rec st k = some st') (h0 : fltN g st.fn st.rule st.loops k = none) : evs (if k.kind = 4 then [.use (resT g st.fn k.name) true k.re k.im] else .bad k.re k.im :: evN g st.fn k) st = some st' := by
 unfold arrF at h
 split at h
 ·rename_i h4;rw [fltN_var hw h4] at h0;rw [named_eq h0, ofF_eq] at h;rw [if_pos h4, evs_one];exact h
 rename_i h4;simp only [Option.bind_eq_bind, Option.bind_eq_some_iff] at h;obtain ⟨s1, h1, h2⟩ := h;have c1 := came_use h1;rw [← c1.1.1, ← c1.1.2.1, ← c1.1.2.2] at h0;have e1 := hr k _ _ hw h2 h0;rw [c1.1.1] at e1;have hn : nEv st (.bad k.re k.im) = some s1 := h1;rw [if_neg h4, evs_cons, hn];exact e1
theorem bltF_ev {g : ProgP} {rec : NRec} (hf : RecF g rec) (hr : RecE g rec) (arr : Int) : ∀ (l : List Node) (i : Nat) (st st' : NS), wfK l → bltF g rec arr i l st = some st' → fltK g st.fn st.rule st.loops false i l = none → evs (evB g st.fn arr i l) st = some st'
 | [], i, st, st', _, h, _ => by
   rw [bltF] at h; cases h;rw [evB]; rfl
 | k :: l, i, st, st', hw, h, h0 => by
   rw [wfK] at hw;rw [fltK, forX_no] at h0;obtain ⟨h1, h2⟩ := Option.or_eq_none' h0;replace h1 : fltN g st.fn st.rule st.loops k = none := h1;simp only [bltF, Option.bind_eq_bind, Option.bind_eq_some_iff] at h;obtain ⟨s1, h3, h4⟩ := h
   have c1 : Came st s1 (fltN g st.fn st.rule st.loops k) := by
    split at h3
    ·exact arrF_flt hf hw.1 h3
    exact hf k _ _ hw.1 h3
   have e1 : evs (if (i : Int) = arr then (if k.kind = 4 then [.use (resT g st.fn k.name) true k.re k.im] else .bad k.re k.im :: evN g st.fn k) else evN g st.fn k) st = some s1 := by
    split at h3
    ·rename_i hi; rw [if_pos hi]; exact arrF_ev hr hw.1 h3 h1
    rename_i hi; rw [if_neg hi]; exact hr k _ _ hw.1 h3 h1
   rw [← c1.1.1, ← c1.1.2.1, ← c1.1.2.2] at h2;have e2 := bltF_ev hf hr arr l (i + 1) _ _ hw.2 h4 h2;rw [c1.1.1] at e2;rw [evB, evs_append, e1];exact e2
theorem subF_eq {nm : ByteArray} {st : NS} {kids : List Node} (h : subX nm kids = none) : subF nm st kids = st := by
 match kids with
 | [] => rfl
 | [_] => rfl
 | [_, _] => rfl
 | [a, b, k] =>
  rw [subX] at h;rw [subF]
  split
  ·rename_i h0; rw [if_pos h0] at h; cases h
  rfl
 | _ :: _ :: _ :: _ :: _ => rfl
theorem fltB_20 (g : ProgP) (fn : Nat) (kd lo : Int) (nm : ByteArray) (kids : List Node) (re im : Nat) : fltB g fn kd lo 20 nm kids re im = if kids.length < (countsF nm).1 ∨ (countsF nm).2 < kids.length then (some (31, re, im) : Option Flt) else subX nm kids := rfl
theorem builtF_ev {g : ProgP} {rec : NRec} (hf : RecF g rec) (hr : RecE g rec) {st st' : NS} {nm : ByteArray} {kids : List Node} {re im : Nat} (hw : wfK kids) (h : builtF g rec st nm kids re im = some st') (h0 : (fltB g st.fn st.rule st.loops 20 nm kids re im).or (fltK g st.fn st.rule st.loops false 0 kids) = none) : evs (if lenB nm kids = true then lenE g st.fn kids else evB g st.fn (arrAt nm) 0 kids) st = some st' := by
 obtain ⟨h1, h2⟩ := Option.or_eq_none' h0;rw [fltB_20] at h1;unfold builtF at h
 split at h
 ·rename_i hc; rw [if_pos hc] at h1; cases h1
 rename_i hc;rw [if_neg hc] at h1;rw [subF_eq h1] at h
 match kids, hw, h, h2 with
 | [k], hw, h, h2 =>
  rw [lenF] at h
  by_cases h4 : nm = nLength ∧ k.kind = 4
  ·rw [if_pos h4] at h
   cases h
   rw [wfK] at hw;rw [fltK, forX_no] at h2;have h3 : fltN g st.fn st.rule st.loops k = none := (Option.or_eq_none' h2).1;rw [fltN_var hw.1 h4.2] at h3;rw [named_eq h3, ofF_eq, if_pos (by simp [lenB, h4]), lenE, evs_one]
   rfl
  rw [if_neg h4] at h;rw [if_neg (by simpa [lenB] using h4)];exact bltF_ev hf hr _ _ _ _ _ hw h h2
 | [], hw, h, h2 => exact bltF_ev hf hr _ _ _ _ _ hw h h2
 | _ :: _ :: _, hw, h, h2 => exact bltF_ev hf hr _ _ _ _ _ hw h h2
theorem preW_ev {g : ProgP} {st st' : NS} {k : Int} {nm : ByteArray} {x : Nat} {kids : List Node} {re im : Nat} (h19 : k ≠ 19) (h20 : k ≠ 20) (h : preW g st (.mk k nm x kids re im) = some st') (h0 : fltB g st.fn st.rule st.loops k nm kids re im = none) : evs (preE g st.fn k nm re im) st = some st' := by
 rw [preW_mk] at h;unfold fltB at h0;unfold preE
 split at h
 ·rename_i h4;rw [if_pos (by simp [isName, h4])] at h0;rw [named_eq h0, ofF_eq] at h;rw [if_pos h4, evs_one];exact h
 rename_i h4;rw [if_neg h4]
 split at h
 ·rename_i h5;rw [if_pos zdb] at h0;rw [named_eq h0, ofF_eq] at h;rw [if_pos h5, evs_one];exact h
 rename_i h5;rw [if_neg h5];rw [if_neg (by rw [isName_false h4 h5]; simp), if_neg h19, if_neg h20] at h0
 have hst : st = st' := by
  split at h
  ·rename_i h38;rw [if_pos h38] at h0;exact qwd
  rename_i h38;rw [if_neg h38] at h0
  split at h
  ·rename_i h40;rw [if_pos h40] at h0;exact qwd
  rename_i h40;rw [if_neg h40] at h0
  split at h
  ·rename_i h36;rw [if_pos h36] at h0;exact qwd
  simpa using h
 rw [hst]; rfl
theorem stepW_ev {g : ProgP} {rec : NRec} (hf : RecF g rec) (hr : RecE g rec) : RecE g (stepW g rec) := by
 intro n st st' hw h h0;obtain ⟨k, nm, x, kids, re, im⟩ := n;rw [wfN] at hw;rw [fltN] at h0;rw [evN];rw [stepW_mk] at h
 split at h
 ·cases h
 split at h
 ·rename_i h19;subst h19;obtain ⟨h1, h2⟩ := Option.or_eq_none' h0;have hb : fltB g st.fn st.rule st.loops 19 nm kids re im = if flook g nm = 0 then (some (28, re, im) : Option Flt) else if (paramsOf g (flook g nm)).length < kids.length then some (31, re, im) else none := rfl
  rw [hb] at h1;rw [if_pos rfl]
  split at h
  ·rename_i hc; rw [if_pos hc] at h1; cases h1
  rename_i hc;rw [if_neg hc] at h1
  split at h
  ·rename_i hc; rw [if_pos hc] at h1; cases h1
  exact callF_ev hf hr _ kids _ 0 _ _ hw.2 h h2
 rename_i h19;rw [if_neg h19]
 split at h
 ·rename_i h20;subst h20;rw [if_pos rfl];exact builtF_ev hf hr hw.2 h h0
 rename_i h20;rw [if_neg h20];obtain ⟨h1, h2⟩ := Option.or_eq_none' h0;simp only [Option.bind_eq_some_iff] at h;obtain ⟨s1, h3, h⟩ := h;have c1 := preW_flt h19 h20 h3;have e1 := preW_ev h19 h20 h3 h1;rw [evs_append, e1];show evs (evK g st.fn kids) s1 = some st'
 split at h
 ·rename_i hl;rw [if_pos hl] at h2
  split at h
  ·cases h
  simp only [Option.bind_eq_some_iff] at h;obtain ⟨s2, h4, h⟩ := h
  split at h
  ·cases h
  cases h
  have c2 := kidsW_flt hf _ kids 0 _ _ hw.2 h4;obtain ⟨⟨d1, d2, d3⟩, d4⟩ := c2;simp only at d1 d2 d3 d4;rw [← c1.1.1, ← c1.1.2.1, ← c1.1.2.2] at h2;have e2 := kidsW_ev hf hr _ kids 0 _ _ hw.2 h4 h2;replace e2 : evs (evK g s1.fn kids) (setL s1 (s1.loops + 1)) = some s2 := e2;rw [c1.1.1, evs_setL, Option.map_eq_some_iff] at e2;obtain ⟨s3, e3, e4⟩ := e2;rw [e3, ← e4]
  have hl3 : s3.loops = s1.loops := by
   have k1 := evs_setL s1.loops (evK g st.fn kids) s1;have k2 : setL s1 s1.loops = s1 := rfl;rw [k2, e3] at k1;simp only [Option.map_some, Option.some.injEq] at k1;have := congrArg NS.loops k1;exact this
  have hl4 : s1.loops + 1 - 1 = s3.loops := by omega
  simp only [setL, hl4]
 rename_i hl;rw [if_neg hl] at h2
 have h34 : (k == 34) = false := by
  simp only [loopK, Bool.or_eq_true, beq_iff_eq, not_or] at hl;simp [hl]
 rw [h34] at h2;rw [← c1.1.1, ← c1.1.2.1, ← c1.1.2.2] at h2;have e2 := kidsW_ev hf hr _ kids 0 _ _ hw.2 h h2;rw [c1.1.1] at e2;exact e2
theorem nodeW_ev (g : ProgP) : ∀ fu, RecE g (nodeW g fu)
 | 0 => fun _ _ _ _ h => by cases h
 | fu + 1 => stepW_ev (nodeW_flt g fu) (nodeW_ev g fu)
end Go.Proofs.YtkfillfkbhbbjaaGreatDoor
