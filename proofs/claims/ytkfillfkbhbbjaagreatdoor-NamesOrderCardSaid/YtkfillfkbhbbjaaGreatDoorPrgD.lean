/- MkO, PLe, PLf, PLg, MkP, PrgD. -/
import Derived.Test.YtkfillfkbhbbjaaGreatDoorMkJ
import Derived.Test.YtkfillfkbhbbjaaGreatDoorLevelsL
import Derived.Test.YtkfillfkbhbbjaaGreatDoorMkM
import Derived.Test.YtkfillfkbhbbjaaGreatDoorMkN
import Derived.Test.YtkfillfkbhbbjaaGreatDoorMkF
import Derived.Test.YtkfillfkbhbbjaaGreatDoorPrgC
set_option maxRecDepth 100000
set_option maxHeartbeats 4000000
set_option linter.unusedSimpArgs false
set_option linter.unusedVariables false
namespace Go.Proofs.YtkfillfkbhbbjaaGreatDoor
open Go.RowKit
set_option maxHeartbeats 8000000 in
theorem expr_0 {M : MKey} {I : Nat} {fn : Bool} {w : World} (h : Bn M I fn w w) {d : Int} (hd0 : d ≤ 0) (hI : I + 7 ≤ 1000000000000) : Calls Tryz.prog 30 #[.pointer (some ⟨M.k, 0, none⟩), .int .i64 d] w fun r w' => NodeP M 2 7 I fn w r w' := by
 have H0 := zh h;clear h
 go_enter Tryz.func30, Tryz.ntmps30
 have H_lt := zh H0.out.lt;obtain ⟨i, nn, l, hi, hn, hl1, hl2, hmk⟩ := H0.out.mak;obtain ⟨l_k, x0, x1, x2, x3, x4, y0, y1, y2, y3, y4⟩ := cf5 hmk.row;have HMK := zh hmk;have hnk : M.k ≠ w.heap.size := Nat.ne_of_lt l_k;clear hmk;have hnw : IntKind.i64.wrap ((nn : Int) + 1) = ((nn + 1 : Nat) : Int) := by rw [wrap_id qg qg]; omega
 go_upto_region 2 with fail
 refine jvb ?_;rintro w1 ⟨hk, hr, hz⟩;have HB1 : Hid (BnR M (I + 1) fn w w1) := zh ⟨H0.out.call ⟨i, nn + 1, l, by omega, by omega, by omega, by omega, HMK.out.upd H0.out.fix hk hr⟩ hk, hz⟩;clear x0 x1 x2 x3 x4 y0 y1 y2 y3 y4 l_k hk hz HMK H0 hi hn hl1 hl2;obtain ⟨l_k, x0, x1, x2, x3, x4, y0, y1, y2, y3, y4⟩ := cf5 hr;clear hr x0 x1 x3 x4 y0 y1 y2 y3 y4;have hx := HB1.out.b;clear hx;have e0 : decide (d ≤ 0) = true := by simp [hd0]
 go_wp2_with fail
 refine (leaf_any HB1.out.here qg).mono ?_;exact zhd
set_option maxHeartbeats 8000000 in
theorem stmt_0 {M : MKey} {I : Nat} {fn : Bool} {w : World} (h : Bn M I fn w w) {d : Int} (hd0 : d ≤ 0) {Z1 K1 : Nat} (h1 : NodeCs 89 M fn 1 Z1 K1) (hI : I + (K1 + 1) ≤ 1000000000000) : Calls Tryz.prog 58 #[.pointer (some ⟨M.k, 0, none⟩), .int .i64 d] w fun r w' => NodeP M Z1 (K1 + 1) I fn w r w' := by
 have H0 := zh h;clear h
 go_enter Tryz.func58, Tryz.ntmps58
 have HS1 := zh h1; have H_lt := zh H0.out.lt;clear h1
 go_upto_region 1 with fail
 refine jyb ?_;rintro w1 ⟨hk, hr⟩;have HB1 := zh (BnR.start H0.out hk hr);clear hk hr H0;obtain ⟨i, nn, l, hi, hn, hl1, hl2, hmk⟩ := HB1.out.mak;obtain ⟨l_k, x0, x1, x2, x3, x4, y0, y1, y2, y3, y4⟩ := cf5 hmk.row;clear hmk x0 x1 x3 x4 y0 y1 y2 y3 y4 hi hn hl1 hl2;have hx := HB1.out.b;clear hx;have e0 : decide (d ≤ 0) = true := by simp [hd0]
 go_wp2_with fail
 refine (HS1.out _ _ HB1.out.here qg).mono ?_;rintro r w7_ ⟨v, rfl, hn, hm, hk⟩;obtain ⟨k7, nm7, nu7, a7, l7, c7, re7, im7, rfl⟩ := hn.shape;have HB8 := zh (HB1.out.call hm hk);have HN7 := zh (HB1.out.node hn);clear hn;clear hk hm HB1;exact jnd
section
variable {M : MKey} {fn : Bool}
theorem exprC_0 {d : Int} (hd : d ≤ 0) : ExprC M fn d 2 7 := fun _ _ h hI => expr_0 h hd hI
theorem lvalC_of {d : Int} (hd : -1000 ≤ d ∧ d ≤ 1000) {Z K : Nat} (hE : ExprC M fn (d - 1) Z K) : LvalC M fn d (Z + 3) (K + 10) := fun _ _ h hI => lval_any h hd hE hI
theorem lvalC_0 : LvalC M fn 0 5 17 := lvalC_of qg (exprC_0 qg)
theorem lvalC_1 : LvalC M fn 1 5 17 := lvalC_of qg (exprC_0 qg)
theorem builtC_0 : BuiltC M fn 0 10 71 := fun _ _ h hI => built_any h (exprC_0 qg) lvalC_0 qg qg hI
theorem exprC_1 : ExprC M fn 1 10 149 := fun _ _ h hI => expr_any h qg (exprC_0 qg) lvalC_1 builtC_0 qg qg hI
theorem lvalC_2 : LvalC M fn 2 13 159 := lvalC_of qg exprC_1
theorem builtC_1 : BuiltC M fn 1 24 355 := fun _ _ h hI => built_any h exprC_1 lvalC_1 qg qg hI
theorem exprC_2 : ExprC M fn 2 31 1001 := fun _ _ h hI => expr_any h qg exprC_1 lvalC_2 builtC_1 qg qg hI
theorem simpC_1 : NodeCs 89 M fn 1 31 487 := fun _ _ h hI => simple_any h exprC_1 qg qg hI
theorem simpC_2 : NodeCs 89 M fn 2 94 3043 := fun _ _ h hI => simple_any h exprC_2 qg qg hI
theorem stmtC_0 : NodeCs 58 M fn 0 31 488 := fun _ _ h hI => stmt_0 h qg simpC_1 hI
theorem blockC_0 : NodeCs 31 M fn 0 94 1504 := fun _ _ h hI => block_any h stmtC_0 qg qg hI
theorem loopC_0 : NodeCs 90 M fn 0 94 1514 := fun _ _ h hI => loop_any h blockC_0 qg qg hI
theorem stmtC_1 : NodeCs 58 M fn 1 220 10000 := fun _ _ h hI => stmt_any h qg exprC_2 simpC_1 simpC_2 blockC_0 loopC_0 qg qg hI
theorem blockC_1 : NodeCs 31 M fn 1 661 30040 := fun _ _ h hI => block_any h stmtC_1 qg qg hI
theorem loopC_1 : NodeCs 90 M fn 1 661 30050 := fun _ _ h hI => loop_any h blockC_1 qg qg hI
theorem stmtC_2 : NodeCs 58 M fn 2 1354 100000 := fun _ _ h hI => stmt_any h qg exprC_2 simpC_1 simpC_2 blockC_1 loopC_1 qg qg hI
theorem blockC_2 : NodeCs 31 M fn 2 4063 300040 := fun _ _ h hI => block_any h stmtC_2 qg qg hI
theorem loopC_2 : NodeCs 90 M fn 2 4063 300050 := fun _ _ h hI => loop_any h blockC_2 qg qg hI
theorem stmtC_3 : NodeCs 58 M fn 3 8158 1000000 := fun _ _ h hI => stmt_any h qg exprC_2 simpC_1 simpC_2 blockC_2 loopC_2 qg qg hI
theorem blockO_2 {I : Nat} {w : World} (h : Bn M I fn w w) (hI : I + 300040 ≤ 1000000000000) : Calls Tryz.prog 31 #[.pointer (some ⟨M.k, 0, none⟩), .int .i64 2] w fun r w' => BlkP M 4062 300040 I fn w r w' := block_own h stmtC_2 qg qg hI
theorem blockO_3 {I : Nat} {w : World} (h : Bn M I fn w w) (hI : I + 3000040 ≤ 1000000000000) : Calls Tryz.prog 31 #[.pointer (some ⟨M.k, 0, none⟩), .int .i64 3] w fun r w' => BlkP M 24474 3000040 I fn w r w' := block_own h stmtC_3 qg qg hI
end
/-! ### kinds, plainly -/
def specT (t : Thing) : Bool := decide (t.1 = 0) && specialF t.2
def useOf (m : Links) (r : Thing) (u : Use) : Bool := !(u.kid || u.bad) && decide (rt m u.of = r)
def firstK (m : Links) (r : Thing) : List Use → Nat
 | [] => 0
 | u :: l => if useOf m r u = true then (if u.array then 2 else 1) else firstK m r l
def specIn (m : Links) (r : Thing) : List Thing → Bool
 | [] => false
 | t :: l => (specT t && decide (rt m t = r)) || specIn m r l
def kofS (st : NS) (r : Thing) : Nat := if specIn st.same r st.seen = true then 1 else firstK st.same r st.uses
theorem kof_cons (r t : Thing) (n : Nat) (k : Kinds) : kof r ((t, n) :: k) = if r = t then n else kof r k := by
 simp only [kof]
 by_cases h : r = t
 ·rw [if_pos (teq_iff'.2 h), if_pos h]
 rw [if_neg (fun q => h (teq_iff'.1 q)), if_neg h]
theorem kindsS_spec {st : NS} (hs : WfS st.same) : ∀ (l : List Thing) (k : Kinds), ∃ k', kindsS st l k = some k' ∧ ∀ r, kof r k' = if specIn st.same r l = true then 1 else kof r k
 | [], k => ⟨k, rfl, fun r => by rw [specIn]; rfl⟩
 | t :: l, k => by
   unfold kindsS;have hsp : (t.1 = 0 ∧ specialF t.2 = true) ↔ specT t = true := by simp [specT]
   by_cases h : t.1 = 0 ∧ specialF t.2 = true
   ·rw [if_pos h];simp only [rootN_eq hs, Option.bind_eq_bind, Option.bind_some];obtain ⟨k', h1, h2⟩ := kindsS_spec hs l ((rt st.same t, 1) :: k);refine ⟨k', h1, fun r => ?_⟩;rw [h2, kof_cons, specIn, hsp.1 h, Bool.true_and]
    cases specIn st.same r l with
    | true => rw [Bool.or_true]; rfl
    | false =>
     rw [Bool.or_false, if_neg zi]
     by_cases hr : rt st.same t = r
     ·rw [if_pos hr.symm, if_pos (by simpa using hr)]
     rw [if_neg (fun q => hr q.symm), if_neg (by simpa using hr)]
   rw [if_neg h];obtain ⟨k', h1, h2⟩ := kindsS_spec hs l k;refine ⟨k', h1, fun r => ?_⟩;have hsp : specT t = false := by cases hq : specT t with | false => rfl | true => exact absurd (hsp.2 hq) h
   rw [h2, specIn, hsp, Bool.false_and, Bool.false_or]
theorem kindsU_spec {st : NS} (hs : WfS st.same) : ∀ (l : List Use) (k : Kinds), ∃ k', kindsU st l k = some k' ∧ ∀ r, kof r k' = if kof r k > 0 then kof r k else firstK st.same r l
 | [], k => ⟨k, rfl, fun r => by simp only [firstK]; split <;> omega⟩
 | u :: l, k => by
   unfold kindsU
   by_cases h : (u.kid || u.bad) = true
   ·rw [if_pos h];obtain ⟨k', h1, h2⟩ := kindsU_spec hs l k;refine ⟨k', h1, fun r => ?_⟩;rw [h2, firstK, useOf, h]; rfl
   rw [if_neg h];simp only [rootN_eq hs, Option.bind_eq_bind, Option.bind_some];have hu : ∀ r, useOf st.same r u = decide (rt st.same u.of = r) := fun r => by simp [useOf, h]
   by_cases hk : kof (rt st.same u.of) k > 0
   ·rw [if_pos hk];obtain ⟨k', h1, h2⟩ := kindsU_spec hs l k;refine ⟨k', h1, fun r => ?_⟩;rw [h2, firstK, hu]
    by_cases hr : rt st.same u.of = r
    ·subst hr; rw [if_pos hk, if_pos hk]
    rw [decide_eq_false hr]; rfl
   rw [if_neg hk];obtain ⟨k', h1, h2⟩ := kindsU_spec hs l ((rt st.same u.of, if u.array then 2 else 1) :: k);refine ⟨k', h1, fun r => ?_⟩
   by_cases hr : rt st.same u.of = r
   ·subst hr;have e0 : kof (rt st.same u.of) k = 0 := by omega
    have e1 : kof (rt st.same u.of) ((rt st.same u.of, if u.array then 2 else 1) :: k) = if u.array then 2 else 1 := by rw [kof_cons, if_pos rfl]
    rw [h2, firstK, hu, e1, e0, decide_eq_true rfl]
    cases u.array <;> rfl
   have e1 : kof r ((rt st.same u.of, if u.array then 2 else 1) :: k) = kof r k := by rw [kof_cons, if_neg (fun q => hr q.symm)]
   rw [h2, firstK, hu, e1, decide_eq_false hr]; rfl
theorem kindsF_spec {st : NS} (hs : WfS st.same) : ∃ k, kindsF st = some k ∧ ∀ r, kof r k = kofS st r := by
 obtain ⟨k1, h1, h2⟩ := kindsS_spec hs st.seen [];obtain ⟨k2, h3, h4⟩ := kindsU_spec hs st.uses k1;refine ⟨k2, ?_, fun r => ?_⟩
 ·simp only [kindsF, h1, h3, Option.bind_eq_bind, Option.bind_some]
 rw [h4, h2, kofS]
 cases specIn st.same r st.seen <;> rfl
def badU (st : NS) (u : Use) : Bool := if u.bad then true else if u.kid then kofS st (rt st.same u.param) == 2 else (kofS st (rt st.same u.of) == 2) != u.array
def firstBad (st : NS) : List Use → Option Flt
 | [] => none
 | u :: l => if badU st u = true then some (30, u.re, u.im) else firstBad st l
theorem arraysF_spec {s0 : NS} {k : Kinds} (hs : WfS s0.same) (hk : ∀ r, kof r k = kofS s0 r) : ∀ (l : List Use) (st : NS), st.same = s0.same → st.uses = s0.uses → st.seen = s0.seen → ∃ st', arraysF k l st = some st' ∧ st'.same = s0.same ∧ st'.uses = s0.uses ∧ st'.seen = s0.seen ∧ fltS st' = (fltS st).or (firstBad s0 l)
 | [], st, h1, h2, h3 => ⟨st, rfl, h1, h2, h3, by rw [firstBad, or_none']⟩
 | u :: l, st, h1, h2, h3 => by
   have hb : (if u.bad then some true
    else if u.kid then (rootN st u.param).bind fun r => some (kof r k == 2)
    else (rootN st u.of).bind fun r => some ((kof r k == 2) != u.array)) = some (badU s0 u) := by
    unfold badU;have hs' : WfS st.same := by rw [h1]; exact hs
    rw [rootN_eq hs', rootN_eq hs', h1]
    split
    ·rfl
    split
    ·simp only [Option.bind_some, hk]
    simp only [Option.bind_some, hk]
   have hst : Came st (if badU s0 u = true then faultF st u.re u.im 30 else st) (if badU s0 u = true then some (30, u.re, u.im) else none) := by
    split
    ·exact zob
    exact qnb
   have hkeep : (if badU s0 u = true then faultF st u.re u.im 30 else st).same = s0.same ∧ (if badU s0 u = true then faultF st u.re u.im 30 else st).uses = s0.uses ∧ (if badU s0 u = true then faultF st u.re u.im 30 else st).seen = s0.seen := by
    split
    ·unfold faultF; split <;> exact ⟨h1, h2, h3⟩
    exact ⟨h1, h2, h3⟩
   obtain ⟨st', g1, g2, g3, g4, g5⟩ := arraysF_spec hs hk l _ hkeep.1 hkeep.2.1 hkeep.2.2;refine ⟨st', ?_, g2, g3, g4, ?_⟩
   ·unfold arraysF;simp only [Option.bind_eq_bind];rw [hb, Option.bind_some];exact g1
   rw [g5, hst.2, or_assoc', firstBad]
   congr 1
   split <;> rfl
def isArr (st : NS) (t : Thing) : Bool := kofS st (rt st.same t) == 2
def global (t : Thing) : Bool := !(decide (t.1 > 0) || specialF t.2)
theorem namesF_spec {st : NS} {k : Kinds} (hs : WfS st.same) (hk : ∀ r, kof r k = kofS st r) (arr : Bool) : ∀ l : List Thing, namesF st k arr l = some ((l.filter fun t => global t && isArr st t == arr).map (·.2))
 | [] => rfl
 | t :: l => by
   unfold namesF;rw [List.filter_cons]
   by_cases h : (decide (t.1 > 0) || specialF t.2) = true
   ·rw [if_pos h, namesF_spec hs hk arr l, if_neg (by simp [global, h])]
   rw [if_neg h];simp only [rootN_eq hs, namesF_spec hs hk arr l, Option.bind_eq_bind, Option.bind_some, hk];have hg : global t = true := by simp only [global, Bool.not_eq_true'] ; simpa using h
   rw [hg, Bool.true_and];show some (if isArr st t == arr then _ else _) = some (List.map _ (if _ then _ else _))
   split <;> rfl
def parsP (st : NS) (i : Nat) (l : List ByteArray) : List Bool := l.map fun s => isArr st (i + 1, s)
def parsQ (st : NS) : Nat → List FuncP → List (List Bool)
 | _, [] => []
 | i, f :: l => parsP st i f.params :: parsQ st (i + 1) l
theorem parsF_spec {st : NS} {k : Kinds} (hs : WfS st.same) (hk : ∀ r, kof r k = kofS st r) (i : Nat) : ∀ l : List ByteArray, parsF st k i l = some (parsP st i l)
 | [] => rfl
 | s :: l => by
   unfold parsF;simp only [rootN_eq hs, parsF_spec hs hk i l, Option.bind_eq_bind, Option.bind_some, hk]
   rfl
theorem parsAll_spec {st : NS} {k : Kinds} (hs : WfS st.same) (hk : ∀ r, kof r k = kofS st r) : ∀ (l : List FuncP) (i : Nat), parsAll st k i l = some (parsQ st i l)
 | [], i => rfl
 | f :: l, i => by
   unfold parsAll;simp only [parsF_spec hs hk, parsAll_spec hs hk l, Option.bind_eq_bind, Option.bind_some]
   rfl
def infoS (st : NS) (g : ProgP) : InfoP := ⟨sortB ((st.seen.filter fun t => global t && isArr st t == false).map (·.2)), sortB ((st.seen.filter fun t => global t && isArr st t == true).map (·.2)), parsQ st 0 g.funcs⟩
theorem infoF_spec {st : NS} {k : Kinds} (hs : WfS st.same) (hk : ∀ r, kof r k = kofS st r) (g : ProgP) : infoF st k g = some (infoS st g) := by
 unfold infoF;simp only [namesF_spec hs hk, parsAll_spec hs hk, Option.bind_eq_bind, Option.bind_some]
 rfl
/-! ### the program -/
def fltR (g : ProgP) : List RuleP → Option Flt
 | [] => none
 | r :: l => ((fltK g 0 r.kind 0 false 0 r.pats).or (fltN g 0 r.kind 0 r.body)).or (fltR g l)
def fltFs (g : ProgP) : Nat → List FuncP → Option Flt
 | _, [] => none
 | i, f :: l => (fltN g (i + 1) 0 0 f.body).or (fltFs g (i + 1) l)
def evR (g : ProgP) : List RuleP → List Ev
 | [] => []
 | r :: l => evK g 0 r.pats ++ evN g 0 r.body ++ evR g l
def evFs (g : ProgP) : Nat → List FuncP → List Ev
 | _, [] => []
 | i, f :: l => f.params.map (fun s => .reg (i + 1, s)) ++ evN g (i + 1) f.body ++ evFs g (i + 1) l
def rsize : List RuleP → Nat
 | [] => 0
 | r :: l => ksize r.pats + nsize r.body + rsize l
def fsize : List FuncP → Nat
 | [] => 0
 | f :: l => nsize f.body + fsize l
mutual
theorem fltN_kd (g : ProgP) {fn : Nat} (h : fn > 0) (kd kd' : Int) : ∀ (n : Node) (lo : Int), fltN g fn kd lo n = fltN g fn kd' lo n
 | .mk k nm x kids re im, lo => by
   rw [fltN, fltN, fltK_kd g h kd kd' kids];have : fltB g fn kd lo k nm kids re im = fltB g fn kd' lo k nm kids re im := by unfold fltB; simp only [h, true_or]
   rw [this]
theorem fltK_kd (g : ProgP) {fn : Nat} (h : fn > 0) (kd kd' : Int) : ∀ (l : List Node) (lo : Int) (lp : Bool) (i : Nat), fltK g fn kd lo lp i l = fltK g fn kd' lo lp i l
 | [], lo, lp, i => by rw [fltK, fltK]
 | k :: l, lo, lp, i => by rw [fltK, fltK, fltN_kd g h kd kd' k, fltK_kd g h kd kd' l]
end
theorem patsF_eq (rec : NRec) : ∀ (l : List Node) (i : Nat) (st : NS), patsF rec l st = kidsW rec false i l st
 | [], i, st => rfl
 | k :: l, i, st => by
   have : forF false i st k = st := by simp [forF]
   simp only [patsF, kidsW, this]
   cases rec st k with
   | none => rfl
   | some s => exact patsF_eq rec l (i + 1) s
structure Ran (st st' : NS) (x : Option Flt) (l : List Ev) (n : Nat) : Prop where
 flt : fltS st' = (fltS st).or x
 ev : x = none → ∃ s, evs l { st with fn := st'.fn, rule := st'.rule, loops := st'.loops } = some s ∧ st' = s
 grew : st'.uses.length ≤ st.uses.length + n ∧ st'.seen.length ≤ st.seen.length + n
 same : WfS st'.same
def setC (st : NS) (f : Nat) (r l : Int) : NS := { st with fn := f, rule := r, loops := l }
theorem nSee_setC (f : Nat) (r l : Int) (st : NS) (t : Thing) : nSee (setC st f r l) t = setC (nSee st t) f r l := by unfold nSee; split <;> rfl
theorem useF_setC (f : Nat) (r l : Int) (st : NS) (u : Use) : useF (setC st f r l) u = (useF st u).map (setC · f r l) := by
 show (if st.uses.length < 400000 then some (setC { st with uses := st.uses ++ [u] } f r l) else none) = (if st.uses.length < 400000 then some { st with uses := st.uses ++ [u] } else none).map (setC · f r l)
 split <;> rfl
theorem nEv_setC (f : Nat) (r l : Int) (x : Ev) (st : NS) : nEv (setC st f r l) x = (nEv st x).map (setC · f r l) := by
 cases x with
 | see t re im => exact congrArg some (nSee_setC f r l st t)
 | use t arr re im =>
  show useF (nSee (setC st f r l) t) _ = (useF (nSee st t) _).map _;rw [nSee_setC, useF_setC]
 | kid p re im => exact useF_setC f r l st _
 | bad re im => exact useF_setC f r l st _
 | link a p re im =>
  show (rootN (nSee (setC st f r l) a) a).bind (fun ra => (rootN (nSee (setC st f r l) a) p).bind fun rb => some (if teq ra rb then nSee (setC st f r l) a else { nSee (setC st f r l) a with same := (nSee (setC st f r l) a).same ++ [(ra, rb)] })) = _;rw [nSee_setC];show (rootN (nSee st a) a).bind (fun ra => (rootN (nSee st a) p).bind fun rb => some (if teq ra rb then setC (nSee st a) f r l else { setC (nSee st a) f r l with same := (nSee st a).same ++ [(ra, rb)] })) = ((rootN (nSee st a) a).bind fun ra => (rootN (nSee st a) p).bind fun rb => some (if teq ra rb then nSee st a else { nSee st a with same := (nSee st a).same ++ [(ra, rb)] })).map (setC · f r l);exact zud
 | reg t => rfl
theorem evs_setC (f : Nat) (r l : Int) : ∀ (x : List Ev) (st : NS), evs x (setC st f r l) = (evs x st).map (setC · f r l)
 | [], st => rfl
 | x :: xs, st => by
   rw [evs_cons, evs_cons, nEv_setC]
   cases nEv st x with
   | none => rfl
   | some s => exact evs_setC f r l xs s
structure Core (a b : NS) : Prop where
 uses : a.uses = b.uses
 same : a.same = b.same
 seen : a.seen = b.seen
theorem Core.eq {a b : NS} (h : Core a b) (e : a.re = b.re ∧ a.im = b.im ∧ a.e = b.e) : a = setC b a.fn a.rule a.loops := by
 obtain ⟨h1, h2, h3⟩ := h; obtain ⟨e1, e2, e3⟩ := e
 cases a; cases b; simp_all [setC]
theorem Ran.refl {st : NS} (h : WfS st.same) : Ran st st none [] 0 := ⟨(or_none' _).symm, fun _ => ⟨st, rfl, rfl⟩, ⟨Nat.le_refl _, Nat.le_refl _⟩, h⟩
theorem Ran.set {st : NS} (h : WfS st.same) (f : Nat) (r l : Int) : Ran st (setC st f r l) none [] 0 := ⟨(or_none' _).symm, fun _ => ⟨_, rfl, rfl⟩, ⟨Nat.le_refl _, Nat.le_refl _⟩, h⟩
theorem Ran.trans {a b c : NS} {x y : Option Flt} {l m : List Ev} {n k j : Nat} (h : Ran a b x l n) (g : Ran b c y m k) (hj : n + k ≤ j) : Ran a c (x.or y) (l ++ m) j := by
 refine ⟨by rw [g.flt, h.flt, or_assoc'], fun hn => ?_, ?_, g.same⟩
 ·obtain ⟨hx, hy⟩ := Option.or_eq_none' hn;obtain ⟨s1, e1, rfl⟩ := h.ev hx;obtain ⟨s2, e2, rfl⟩ := g.ev hy;refine ⟨_, ?_, rfl⟩;rw [evs_append];have e1' := evs_setC c.fn c.rule c.loops l (setC a b.fn b.rule b.loops);replace e1 : evs l (setC a b.fn b.rule b.loops) = some b := e1;rw [e1] at e1';replace e1' : evs l (setC a c.fn c.rule c.loops) = some (setC b c.fn c.rule c.loops) := e1';show (evs l (setC a c.fn c.rule c.loops)).bind (evs m) = some c;rw [e1'];exact e2
 have := h.grew; have := g.grew; omega
theorem ran_node {g : ProgP} {fu : Nat} {n : Node} {st : NS} (hw : wfN n) (hf : nsize n ≤ fu) (hs : WfS st.same) (hu : st.uses.length + (2 * nsize n - 1) ≤ 400000) (h0 : 0 ≤ st.loops) (hl : st.loops + (nsize n : Int) ≤ 900000) : ∃ st', nodeW g fu st n = some st' ∧ SameC st st' ∧ Ran st st' (fltN g st.fn st.rule st.loops n) (evN g st.fn n) (2 * nsize n) := by
 obtain ⟨st', h1, gr⟩ := nodeW_tot g fu n st hf hs hu h0 hl;have c := nodeW_flt g fu n st st' hw h1;refine ⟨st', h1, c.1, c.2, fun hn => ⟨st', ?_, rfl⟩, ?_, gr.same⟩
 ·rw [c.1.1, c.1.2.1, c.1.2.2];exact nodeW_ev g fu n st st' hw h1 hn
 have := gr.uses; have := gr.seen; omega
theorem ran_pats {g : ProgP} {fu : Nat} : ∀ {l : List Node} {st : NS}, wfK l → ksize l ≤ fu → WfS st.same → st.uses.length + 2 * ksize l ≤ 400000 → st.loops = 0 → ksize l ≤ 900000 →
  ∃ st', patsF (nodeW g fu) l st = some st' ∧ SameC st st' ∧ Ran st st' (fltK g st.fn st.rule st.loops false 0 l) (evK g st.fn l) (2 * ksize l)
 | l, st, hw, hf, hs, hu, h0, hl => by
   rw [patsF_eq _ l 0];obtain ⟨st', h1, gr⟩ := kidsW_tot (nodeW_tot g fu) false l 0 st hf hs hu qg qg;have c := kidsW_flt (nodeW_flt g fu) false l 0 st st' hw h1;refine ⟨st', h1, c.1, c.2, fun hn => ⟨st', ?_, rfl⟩, ?_, gr.same⟩
   ·rw [c.1.1, c.1.2.1, c.1.2.2];exact kidsW_ev (nodeW_flt g fu) (nodeW_ev g fu) false l 0 st st' hw h1 hn
   have := gr.uses; have := gr.seen; omega
theorem ran_rules {g : ProgP} {fu : Nat} : ∀ {l : List RuleP} {st : NS}, (∀ r ∈ l, wfK r.pats ∧ wfN r.body) → rsize l ≤ fu → st.fn = 0 → WfS st.same → st.uses.length + 2 * rsize l ≤ 400000 → rsize l ≤ 900000 →
  ∃ st', allR (nodeW g fu) l st = some st' ∧ st'.fn = 0 ∧ Ran st st' (fltR g l) (evR g l) (2 * rsize l)
 | [], st, _, _, h0, hs, _, _ => ⟨st, rfl, h0, Ran.refl hs⟩
 | r :: l, st, hw, hf, h0, hs, hu, hb => by
   obtain ⟨hw1, hw2⟩ := hw r (List.mem_cons_self ..);rw [rsize] at hf hu hb ⊢;have hn := nsize_pos r.body;obtain ⟨s1, e1, c1, r1⟩ := ran_pats (g := g) (fu := fu) (st := setC st st.fn r.kind 0) hw1 qg hs (by show st.uses.length + _ ≤ _; omega) rfl qg;have u1 := r1.grew.1;replace u1 : s1.uses.length ≤ st.uses.length + 2 * ksize r.pats := u1;obtain ⟨s2, e2, c2, r2⟩ := ran_node (g := g) (fu := fu) (st := s1) hw2 qg r1.same qg (by rw [c1.2.2]; exact Int.le_refl 0) (by rw [c1.2.2]; show (0 : Int) + _ ≤ _; omega);have u2 := r2.grew.1;have hf2 : s2.fn = 0 := by rw [c2.1, c1.1]; exact h0
   obtain ⟨s3, e3, h3, r3⟩ := ran_rules (g := g) (fu := fu) (l := l) (st := s2) (fun r hr => hw r (List.mem_cons_of_mem _ hr)) qg hf2 r2.same qg qg;refine ⟨s3, ?_, h3, ?_⟩
   ·simp only [allR, Option.bind_eq_bind];show (patsF (nodeW g fu) r.pats (setC st st.fn r.kind 0)).bind _ = _;rw [e1, Option.bind_some, e2, Option.bind_some, e3]
   rw [c1.1, c1.2.1, c1.2.2] at r2;have r1 : Ran (setC st st.fn r.kind 0) s1 (fltK g st.fn r.kind 0 false 0 r.pats) (evK g st.fn r.pats) (2 * ksize r.pats) := r1;have r2 : Ran s1 s2 (fltN g st.fn r.kind 0 r.body) (evN g st.fn r.body) (2 * nsize r.body) := r2;have t := (((Ran.set hs st.fn r.kind 0).trans r1 (Nat.le_refl _)).trans r2 (Nat.le_refl _)).trans r3 (j := 2 * (ksize r.pats + nsize r.body + rsize l)) qg;rw [h0] at t;exact t
theorem evs_reg (i : Nat) : ∀ (l : List ByteArray) (st : NS), evs (l.map fun s => .reg (i, s)) st = some st
 | [], st => rfl
 | s :: l, st => by rw [List.map_cons, evs_cons]; exact evs_reg i l st
theorem ran_reg {st : NS} (hs : WfS st.same) (i : Nat) (l : List ByteArray) : Ran st st none (l.map fun s => .reg (i, s)) 0 := ⟨(or_none' _).symm, fun _ => ⟨st, evs_reg i l st, rfl⟩, ⟨Nat.le_refl _, Nat.le_refl _⟩, hs⟩
theorem ran_funcs {g : ProgP} {fu : Nat} : ∀ {l : List FuncP} {i : Nat} {st : NS}, (∀ f ∈ l, wfN f.body) → fsize l ≤ fu → WfS st.same → st.uses.length + 2 * fsize l ≤ 400000 → fsize l ≤ 900000 →
  ∃ st', allF (nodeW g fu) i l st = some st' ∧ Ran st st' (fltFs g i l) (evFs g i l) (2 * fsize l)
 | [], i, st, _, _, hs, _, _ => ⟨st, rfl, Ran.refl hs⟩
 | f :: l, i, st, hw, hf, hs, hu, hb => by
   rw [fsize] at hf hu hb ⊢;have hn := nsize_pos f.body;obtain ⟨s2, e2, c2, r2⟩ := ran_node (g := g) (fu := fu) (st := setC st (i + 1) st.rule 0) (hw f (List.mem_cons_self ..)) qg hs (by show st.uses.length + _ ≤ _; omega) (Int.le_refl 0) (by show (0 : Int) + _ ≤ _; omega);have u2 := r2.grew.1;replace u2 : s2.uses.length ≤ st.uses.length + 2 * nsize f.body := u2;obtain ⟨s3, e3, r3⟩ := ran_funcs (g := g) (fu := fu) (l := l) (i := i + 1) (st := s2) (fun r hr => hw r (List.mem_cons_of_mem _ hr)) qg r2.same qg qg;refine ⟨s3, ?_, ?_⟩
   ·simp only [allF, Option.bind_eq_bind];show (nodeW g fu (setC st (i + 1) st.rule 0) f.body).bind _ = _;rw [e2, Option.bind_some, e3]
   have r2 : Ran (setC st (i + 1) st.rule 0) s2 (fltN g (i + 1) st.rule 0 f.body) (evN g (i + 1) f.body) (2 * nsize f.body) := r2;rw [fltN_kd g (Nat.succ_pos i) st.rule 0] at r2;exact (((Ran.set hs (i + 1) st.rule 0).trans (ran_reg (st := setC st (i + 1) st.rule 0) hs (i + 1) f.params) (Nat.le_refl _)).trans r2 (Nat.le_refl _)).trans r3 (j := 2 * (nsize f.body + fsize l)) qg
theorem headP_keep (f : FuncP) (s : ByteArray) : ∀ (l : List ByteArray) (st : NS), (headP f s l st).uses = st.uses ∧ (headP f s l st).same = st.same ∧ (headP f s l st).seen = st.seen ∧ (headP f s l st).fn = st.fn
 | [], st => ⟨rfl, rfl, rfl, rfl⟩
 | t :: l, st => by
   have h := headP_keep f s l (if same t s then faultF st f.re f.im 29 else st);rw [headP];refine ⟨h.1.trans ?_, h.2.1.trans ?_, h.2.2.1.trans ?_, h.2.2.2.trans ?_⟩ <;> (split <;> (try unfold faultF; split) <;> rfl)
theorem fault_keep (st : NS) (re im : Nat) (e : Int) : (faultF st re im e).uses = st.uses ∧ (faultF st re im e).same = st.same ∧ (faultF st re im e).seen = st.seen ∧ (faultF st re im e).fn = st.fn := by unfold faultF; split <;> exact ⟨rfl, rfl, rfl, rfl⟩
theorem headPs_keep (g : ProgP) (i : Nat) (f : FuncP) : ∀ (l pre : List ByteArray) (st : NS), (headPs g i f pre l st).uses = st.uses ∧ (headPs g i f pre l st).same = st.same ∧ (headPs g i f pre l st).seen.length ≤ st.seen.length + l.length ∧ (headPs g i f pre l st).fn = st.fn
 | [], pre, st => ⟨rfl, rfl, Nat.le_refl _, rfl⟩
 | s :: l, pre, st => by
   rw [headPs];have h1 := headP_keep f s pre st;generalize headP f s pre st = s1 at *
   have h2 : (if specialF s || decide (flook g s > 0) then faultF s1 f.re f.im 28 else s1).uses = s1.uses ∧ (if specialF s || decide (flook g s > 0) then faultF s1 f.re f.im 28 else s1).same = s1.same ∧ (if specialF s || decide (flook g s > 0) then faultF s1 f.re f.im 28 else s1).seen = s1.seen ∧ (if specialF s || decide (flook g s > 0) then faultF s1 f.re f.im 28 else s1).fn = s1.fn := by
    split
    ·exact fault_keep _ _ _ _
    exact ⟨rfl, rfl, rfl, rfl⟩
   generalize (if specialF s || decide (flook g s > 0) then faultF s1 f.re f.im 28 else s1) = s2 at *
   have h3 := headPs_keep g i f l (pre ++ [s]) (seePut s2 (i + 1, s))
   have h4 : (seePut s2 (i + 1, s)).seen.length ≤ s2.seen.length + 1 := by
    unfold seePut; simp only; split
    ·omega
    simp
   refine ⟨h3.1.trans (h2.1.trans h1.1), h3.2.1.trans (h2.2.1.trans h1.2.1), ?_, h3.2.2.2.trans (h2.2.2.2.trans h1.2.2.2)⟩;have := h3.2.2.1;rw [h2.2.2.1, h1.2.2.1] at h4;rw [List.length_cons]; omega
def psize : List FuncP → Nat
 | [] => 0
 | f :: l => f.params.length + psize l
theorem headsA_keep (g : ProgP) : ∀ (l : List FuncP) (i : Nat) (st : NS), (headsA g i l st).uses = st.uses ∧ (headsA g i l st).same = st.same ∧ (headsA g i l st).seen.length ≤ st.seen.length + psize l ∧ (headsA g i l st).fn = st.fn
 | [], i, st => ⟨rfl, rfl, Nat.le_refl _, rfl⟩
 | f :: l, i, st => by
   rw [headsA]
   have h2 : ∀ s, s = (if flook g f.name ≠ i + 1 then faultF st f.re f.im 29 else if specialF f.name then faultF st f.re f.im 28 else st) → s.uses = st.uses ∧ s.same = st.same ∧ s.seen = st.seen ∧ s.fn = st.fn := by
    rintro _ rfl
    split
    ·exact fault_keep _ _ _ _
    split
    ·exact fault_keep _ _ _ _
    exact ⟨rfl, rfl, rfl, rfl⟩
   have h2 := h2 _ rfl;generalize (if flook g f.name ≠ i + 1 then faultF st f.re f.im 29 else if specialF f.name then faultF st f.re f.im 28 else st) = s1 at *
   have h1 := headPs_keep g i f f.params [] s1;have h3 := headsA_keep g l (i + 1) (headPs g i f [] f.params s1);refine ⟨h3.1.trans (h1.1.trans h2.1), h3.2.1.trans (h1.2.1.trans h2.2.1), ?_, h3.2.2.2.trans (h1.2.2.2.trans h2.2.2.2)⟩;have := h3.2.2.1; have := h1.2.2.1;rw [psize]; rw [h2.2.2.1] at this; omega
def fT (x : Flt) : Told := ⟨⟨[], [], []⟩, x.2.1, x.2.2, x.1⟩
def hd (g : ProgP) : NS := headsA g 0 g.funcs ns0
def evP (g : ProgP) : List Ev := evR g g.rules ++ evFs g 0 g.funcs
def fltP (g : ProgP) : Option Flt := (fltR g g.rules).or (fltFs g 0 g.funcs)
def specW (g : ProgP) : Told := match fltS (hd g) with
 | some x => fT x
 | none => match fltP g with
   | some x => fT x
   | none => match evs (evP g) (hd g) with
     | none => fT (0, 0, 0)
     | some st => match firstBad st st.uses with
       | some x => fT x
       | none => ⟨infoS st g, 0, 0, 0⟩
structure WfP (g : ProgP) : Prop where
 rules : ∀ r ∈ g.rules, wfK r.pats ∧ wfN r.body
 funcs : ∀ f ∈ g.funcs, wfN f.body
 size : 2 * (rsize g.rules + fsize g.funcs) + psize g.funcs ≤ 400000
theorem rsize_len : ∀ l : List RuleP, l.length ≤ rsize l
 | [] => Nat.le_refl _
 | r :: l => by have := rsize_len l; have := nsize_pos r.body; rw [rsize, List.length_cons]; omega
theorem rsize_mem : ∀ {l : List RuleP} {r : RuleP}, r ∈ l → ksize r.pats ≤ rsize l
 | x :: l, r, h => by
   rw [rsize]
   rcases List.mem_cons.1 h with rfl | h
   ·omega
   have := rsize_mem h; omega
theorem fsize_len : ∀ l : List FuncP, l.length ≤ fsize l
 | [] => Nat.le_refl _
 | r :: l => by have := fsize_len l; have := nsize_pos r.body; rw [fsize, List.length_cons]; omega
theorem psize_mem : ∀ {l : List FuncP} {r : FuncP}, r ∈ l → r.params.length ≤ psize l
 | x :: l, r, h => by
   rw [psize]
   rcases List.mem_cons.1 h with rfl | h
   ·omega
   have := psize_mem h; omega
theorem fltS_none {st : NS} : fltS st = none ↔ st.e = 0 := by unfold fltS; split <;> simp_all
theorem fltS_some {st : NS} {x : Flt} (h : fltS st = some x) : st.e ≠ 0 ∧ x = (st.e, st.re, st.im) := by
 unfold fltS at h; split at h
 ·cases h
 rename_i h0; exact ⟨h0, (Option.some.inj h).symm⟩
theorem nRest_fault {st : NS} {g : ProgP} {x : Flt} (h : fltS st = some x) : nRest st g = some (fT x) := by
 obtain ⟨h0, rfl⟩ := fltS_some h;rw [nRest, if_pos h0]; rfl
theorem nRest_ok {st : NS} {g : ProgP} (h : fltS st = none) (hs : WfS st.same) : nRest st g = some ⟨infoS st g, 0, 0, 0⟩ := by
 have h0 := fltS_none.1 h;obtain ⟨k, h1, h2⟩ := kindsF_spec hs;rw [nRest, if_neg (by simpa using h0)];simp only [h1, infoF_spec hs h2, Option.bind_eq_bind, Option.bind_some]
theorem wCheck_spec {fu : Nat} {g : ProgP} (h : WfP g) (hfu : 200000 ≤ fu) : wCheck fu g = some (specW g) := by
 have hsz := h.size;have hd1 := headsA_keep g g.funcs 0 ns0
 change (hd g).uses = [] ∧ (hd g).same = [] ∧ (hd g).seen.length ≤ 0 + psize g.funcs ∧ (hd g).fn = 0 at hd1
 obtain ⟨hu, hm, hn, hf⟩ := hd1;have hs : WfS (hd g).same := by rw [hm]; exact .nil
 have hsm : smallB g = true := by
  have a1 := rsize_len g.rules; have a2 := fsize_len g.funcs;simp only [smallB, Bool.and_eq_true, decide_eq_true_eq, List.all_eq_true];refine ⟨⟨⟨by omega, by omega⟩, fun f hf => ?_⟩, fun r hr => ?_⟩
  ·have := psize_mem hf; omega
  have := rsize_mem hr; have := ksize_len r.pats; omega
 rw [wCheck, if_neg (by simp [hsm])];show (wAll fu g (hd g)).bind _ = _;unfold specW
 cases hh : fltS (hd g) with
 | some x =>
  have h0 := (fltS_some hh).1;rw [wAll, if_neg h0, Option.bind_some, if_neg qw];show (nArr (hd g)).bind _ = _;rw [nArr, if_neg h0, Option.bind_some];exact nRest_fault hh
 | none =>
  have h0 := fltS_none.1 hh;obtain ⟨s1, e1, f1, r1⟩ := ran_rules (g := g) (fu := fu) (l := g.rules) (st := hd g) h.rules qg hf hs qw qg;have u1 := r1.grew.1;rw [hu] at u1;simp only [List.length_nil] at u1;obtain ⟨s2, e2, r2⟩ := ran_funcs (g := g) (fu := fu) (l := g.funcs) (i := 0) (st := s1) h.funcs qg r1.same qg qg;have r12 := r1.trans r2 (Nat.le_refl _);have hg := r12.grew;rw [hu] at hg;simp only [List.length_nil] at hg
  have hall : wAll fu g (hd g) = some s2 := by
   rw [wAll, if_pos h0];simp only [Option.bind_eq_bind, e1, e2, Option.bind_some]
  rw [hall, Option.bind_some, if_neg qg];have hfl := r12.flt;rw [hh] at hfl
  change fltS s2 = fltP g at hfl
  show (nArr s2).bind _ = _
  cases hp : fltP g with
  | some x =>
   rw [hp] at hfl;rw [nArr, if_neg (fltS_some hfl).1, Option.bind_some];exact nRest_fault hfl
  | none =>
   rw [hp] at hfl;obtain ⟨s3, e3, rfl⟩ := r12.ev hp;have e3' : evs (evP g) (setC (hd g) s2.fn s2.rule s2.loops) = some s2 := e3;rw [evs_setC, Option.map_eq_some_iff] at e3';obtain ⟨s3, e4, e5⟩ := e3';rw [e4];obtain ⟨k, k1, k2⟩ := kindsF_spec r12.same;obtain ⟨s4, a1, a2, a3, a4, a5⟩ := arraysF_spec r12.same k2 s2.uses s2 rfl rfl rfl
   have harr : nArr s2 = some s4 := by
    rw [nArr, if_pos (fltS_none.1 hfl)];simp only [Option.bind_eq_bind, k1, Option.bind_some, a1]
   rw [harr, Option.bind_some]
   have hb : firstBad s2 s2.uses = firstBad s3 s3.uses := by
    rw [← e5];show firstBad (setC s3 s2.fn s2.rule s2.loops) s3.uses = _;generalize s3.uses = l
    induction l with
    | nil => rfl
    | cons u l ih => rw [firstBad, firstBad, ih]; rfl
   rw [hfl, hb] at a5
   change fltS s4 = firstBad s3 s3.uses at a5
   show _ = some (match firstBad s3 s3.uses with | some x => fT x | none => ⟨infoS s3 g, 0, 0, 0⟩)
   cases hx : firstBad s3 s3.uses with
   | some x =>
    rw [hx] at a5;exact nRest_fault a5
   | none =>
    rw [hx] at a5;rw [nRest_ok a5 (by rw [a2]; exact r12.same)]
    have hi : infoS s4 g = infoS s3 g := by
     have q1 : s4.same = s3.same := by rw [a2, ← e5]; rfl
     have q2 : s4.uses = s3.uses := by rw [a3, ← e5]; rfl
     have q3 : s4.seen = s3.seen := by rw [a4, ← e5]; rfl
     have hk : ∀ t, isArr s4 t = isArr s3 t := fun t => by unfold isArr kofS; rw [q1, q2, q3]
     have hq : ∀ (l : List FuncP) (i : Nat), parsQ s4 i l = parsQ s3 i l := by
      intro l
      induction l with
      | nil => intro i; rfl
      | cons f l ih => intro i; rw [parsQ, parsQ, ih]; congr 1; unfold parsP; simp only [hk]
     unfold infoS;rw [q3, hq];simp only [hk]
    rw [hi]
theorem rsize_snoc : ∀ (l : List RuleP) (r : RuleP), rsize (l ++ [r]) = rsize l + (ksize r.pats + nsize r.body)
 | [], r => by simp [rsize]
 | k :: l, r => by rw [List.cons_append, rsize, rsize, rsize_snoc l r]; omega
def OwR (b e Z m : Nat) (W : World) (v : Value) : Prop := ∃ rs : List RuleP, rs.length = m ∧ OwnL RuleE 52 9 W b (fun g => b ≤ g ∧ g < e) rs v ∧ (∀ r ∈ rs, wfK r.pats ∧ wfN r.body) ∧ rsize rs ≤ Z
theorem OwR.nil (b e : Nat) (W : World) : OwR b e 0 0 W (.slice none 0 0) := ⟨[], rfl, .nil, by simp, Nat.le_refl _⟩
theorem OwR.step {b e Z m : Nat} {W W' : World} {v : Value} {fp : List Nat} (h : OwR b e Z m W v) (hk : Keeps fp W W') (hf : ∀ x ∈ fp, x < b ∨ e ≤ x) : OwR b e Z m W' v := by
 obtain ⟨rs, h1, h2, h3⟩ := h;exact ⟨rs, h1, h2.kp ruleL hk (fun x hx ht => by have := hf x hx; omega), h3⟩
theorem OwR.to {b e e' Z Z' m : Nat} {W : World} {v : Value} (h : OwR b e Z m W v) (he : e ≤ e') (hZ : Z ≤ Z') : OwR b e' Z' m W v := by
 obtain ⟨rs, h1, h2, h3, h4⟩ := h;exact ⟨rs, h1, h2.to ruleL (fun x hx => ⟨hx.1, Nat.lt_of_lt_of_le hx.2 he⟩), h3, by omega⟩
theorem OwR.slice {b e Z m : Nat} {W : World} {v : Value} (h : OwR b e Z m W v) : ∃ a c, v = .slice a m c := by
 obtain ⟨rs, h1, h2, -⟩ := h;obtain ⟨a, c, hv, -⟩ := h2.slice;exact ⟨a, c, by rw [hv, h1]⟩
def Rl (b Z : Nat) (W : World) (c : List Value) : Prop := ∃ r : RuleP, RuleE W (fun g => b ≤ g ∧ g < W.heap.size) r c ∧ wfK r.pats ∧ wfN r.body ∧ ksize r.pats + nsize r.body ≤ Z
theorem Rl.mk {b Zp Zb : Nat} {W : World} {k n : Int} {pa : Option Addr} {pl pc : Nat} {b0 b1 b2 b3 b4 : Value} {re im : Nat} (hp : Kd b Zp W (.slice pa pl pc)) (hb : Nd b Zb W (.agg #[b0, b1, b2, b3, b4])) : Rl b (Zp + Zb) W [.int .i64 k, .int .i64 n, .slice pa pl pc, b0, b1, b2, b3, b4, .complex .f64 re im] := by
 obtain ⟨ps, p1, p2, p3⟩ := hp;obtain ⟨bn, q1, q2, q3⟩ := hb;have p4 := p1.bound;obtain ⟨a', c', e⟩ := p1.shape;injection e with e1 e2 e3
 subst e1 e2 e3;exact ⟨⟨k, n, ps, bn, re, im⟩, ⟨_, _, _, _, _, _, _, rfl, p4, q1.bound⟩, p2, q2, by simp only; omega⟩
theorem Rl.step {b Z : Nat} {W W' : World} {c : List Value} {fp : List Nat} (h : Rl b Z W c) (hk : Keeps fp W W') (hf : ∀ x ∈ fp, x < b) : Rl b Z W' c := by
 obtain ⟨r, h1, h2⟩ := h;exact ⟨r, ruleL.keep h1 hk (fun x hx hb => by have := hf x hx; omega) (fun x hx => ⟨hx.1, Nat.lt_of_lt_of_le hx.2 hk.size⟩), h2⟩
theorem app_owR {ops : Array Oper} {rest : List Oper} {o : Oper} {a : Act} {V : World} {Q : Exit → Act → World → Prop} (hgd : o.guard = none) (s y : Operand) (ho : o.op = .call { callee := .builtin .append, args := #[s, y], argTypes := #[30, 30] }) {b e e1 Z Z1 m G cap : Nat} {v c0 c1 c2 c3 c4 c5 c6 c7 c8 : Value} (hs : a.eval s = v) (hy : a.eval y = .slice (some ⟨G, 0, none⟩) 1 cap) (hO : OwR b e Z m V v) (hG : V.heap[G]? = some (.cells #[c0, c1, c2, c3, c4, c5, c6, c7, c8] 52 (0, 0))) (hn : Rl e1 Z1 V [c0, c1, c2, c3, c4, c5, c6, c7, c8]) (he : e ≤ e1) (heV : e ≤ V.heap.size) (hb : b ≤ e) (hm : m ≤ 100000) (h : ∀ v' w' fl, (∀ x ∈ fl, b ≤ x ∧ x < e) → Keeps fl V w' → OwR b w'.heap.size (Z + Z1) (m + 1) w' v' → wpList Tryz.prog ops Q rest (a.put o.dst v') w') : wpList Tryz.prog ops Q (o :: rest) a V := by
 obtain ⟨rs, q1, q2, q3, q4⟩ := hO;obtain ⟨r, p1, p2, p3, p4⟩ := hn;obtain ⟨i, hi, hz, hsz, hby⟩ := info52;refine wpList_appL ruleL hgd s y 30 ho Tryz.underlying30 hi hz hsz hby rfl zi zi hs hy q2 (c := [c0, c1, c2, c3, c4, c5, c6, c7, c8]) hG p1 (fun g h1 h2 => by omega) (fun g h => h.2) (fun g h => by omega) qg qg fun v' w' fl hfl hk hw => h v' w' fl hfl hk ⟨rs ++ [r], by simp [q1], hw.to ruleL fun x hx => ?_, fun r' hr' => ?_, ?_⟩
 ·have := hk.size
  rcases hx with hx | hx | hx <;> omega
 ·rcases List.mem_append.1 hr' with hr' | hr'
  ·exact q3 r' hr'
  obtain rfl : r' = r := by simpa using hr'
  exact ⟨p2, p3⟩
 rw [rsize_snoc]; omega
structure Pg (M : MKey) (I : Nat) (fn : Bool) (w W : World) : Prop where
 fix : MFix M
 k : M.k = w.heap.size + 1
 mak : MKB M I fn W
 keep : Keeps [] w W
 res : W.heap[w.heap.size]? = some (.cells #[.slice none 0 0, .slice none 0 0] 33 (0, 0))
theorem Pg.here {M : MKey} {I : Nat} {fn : Bool} {w W : World} (h : Pg M I fn w W) : Bn M I fn W W := Bn.start h.fix h.mak
theorem Pg.call {M : MKey} {I J : Nat} {fn fn' : Bool} {w W W' : World} (h : Pg M I fn w W) (hm : MKB M J fn' W') (hk : Keeps [M.k] W W') : Pg M J fn' w W' :=
 ⟨h.fix, h.k, hm, h.keep.trans hk (fun x hx => by have := h.k; simp at hx; right; omega), hk.at h.res (by have := h.k; simp; omega)⟩
theorem Pg.kp {M : MKey} {I : Nat} {fn : Bool} {w W W' : World} {fp : List Nat} (h : Pg M I fn w W) (hk : Keeps fp W W') (hf : ∀ x ∈ fp, w.heap.size + 2 ≤ x) : Pg M I fn w W' := by
 have h1 := h.k; have h2 := h.fix.hk;exact ⟨h.fix, h.k, h.mak.kp h.fix hk (fun hm => by have := hf _ hm; omega) (fun x hx => by have := hf x hx; have := h.fix.hk; have h3 := h.keep.size; omega), h.keep.trans hk (fun x hx => .inr (by have := hf x hx; omega)), hk.at h.res (fun hm => by have := hf _ hm; omega)⟩
theorem Pg.to {M : MKey} {I J : Nat} {fn : Bool} {w W : World} (h : Pg M I fn w W) (hJ : I ≤ J) : Pg M J fn w W := ⟨h.fix, h.k, h.mak.to hJ, h.keep, h.res⟩
theorem ruleF_calls {s : ByteArray} {p k : Nat} {st st2 : PSt} {f : RuleP} (hx : ruleF s (parN s k) st = some (f, st2)) (w : World) (h : PP s p st w) : Calls Tryz.prog 66 #[.pointer (some ⟨p, 0, none⟩)] w fun r w' => ∃ v, r = .returned (.tuple #[v, .bool true]) ∧ RuleV w' (fun g => w.heap.size ≤ g) f v ∧ PP s p st2 w' ∧ Keeps [p] w w' := by
 simp only [ruleF, Option.bind_eq_bind, Option.bind_eq_some_iff, Prod.exists] at hx;obtain ⟨t0, re, im, h0, b, st1, h1, hx⟩ := hx;obtain ⟨ht0, rfl, rfl⟩ := hereF_some h0;obtain ⟨kd0, tx0, nm0, fr0, te0⟩ := t0
 cases b with
 | true =>
  simp only [if_true, Option.bind_eq_some_iff, Prod.exists, Option.some.injEq, Prod.mk.injEq] at hx;obtain ⟨n, st3, h3, rfl, rfl⟩ := hx;exact rule_begin ht0 h1 (parN_hands k .block _ _ _ h3) w h
 | false =>
  obtain ⟨rfl, hn⟩ := take_false h1;simp only [Bool.false_eq_true, if_false, Option.bind_eq_some_iff, Prod.exists] at hx;obtain ⟨_, h2, _, h3, _, h4, c, h5, hx⟩ := hx
  cases c with
  | true =>
   simp only [if_true, Option.bind_eq_some_iff, Prod.exists, Option.some.injEq, Prod.mk.injEq] at hx;obtain ⟨n, st3, h6, rfl, rfl⟩ := hx;exact rule_always ht0 hn h2 h3 h4 h5 (parN_hands k .block _ _ _ h6) w h
  | false => simp at hx
def ProgV (w : World) (S : Nat → Prop) (g : ProgP) (v : Value) : Prop :=
 ∃ pa pc qa qc, v = .agg #[.slice pa g.rules.length pc, .slice qa g.funcs.length qc] ∧ SliceR RuleE w S g.rules (.slice pa g.rules.length pc) ∧ SliceR FuncE w S g.funcs (.slice qa g.funcs.length qc)
theorem ProgV.kp {w w' : World} {S : Nat → Prop} {fp : List Nat} {g : ProgP} {v : Value} (h : ProgV w S g v) (hk : Keeps fp w w') (hf : ∀ x ∈ fp, ¬ S x) : ProgV w' S g v := by
 obtain ⟨pa, pc, qa, qc, h, h1, h2⟩ := h;exact ⟨pa, pc, qa, qc, h, h1.kp ruleL hk hf, h2.kp funcL hk hf⟩
theorem item_any {s : ByteArray} {p gb k : Nat} {w wi : World} {st st2 : PSt} {rs : List RuleP} {fs : List FuncP} {g2 : ProgP} (hlen : rs.length + fs.length ≤ 1000) (g_0 : 14 < w.heap.size) (hi : ProgI s p gb w rs fs st wi)
  (hx : (do
   let b ← isF s st (bs [102, 117, 110, 99, 116, 105, 111, 110])
   if b then none
   else do
    let (x, st) ← ruleF s (parN s k) st
    some ((⟨rs ++ [x], fs⟩ : ProgP), st)) = some (g2, st2)) :
  Calls Tryz.prog 37 #[.pointer (some ⟨p, 0, none⟩), .pointer (some ⟨gb, 0, none⟩)] wi fun r w' => r = .returned (.tuple #[]) ∧ ProgI s p gb w g2.rules g2.funcs st2 w' := by
 simp only [Option.bind_eq_bind, Option.bind_eq_some_iff] at hx;obtain ⟨b, hb, hx⟩ := hx
 cases b with
 | true =>
  simp at hx
 | false =>
  simp only [Bool.false_eq_true, if_false, Option.bind_eq_some_iff, Prod.exists, Option.some.injEq, Prod.mk.injEq] at hx;obtain ⟨f, st3, h3, rfl, rfl⟩ := hx;exact item_r hb (ruleF_calls h3) qg g_0 hi
end Go.Proofs.YtkfillfkbhbbjaaGreatDoor
