/- PLd, MkC, MkD, MkE, MkF. -/
import Derived.Test.YtkfillfkbhbbjaaGreatDoorPLc
import Derived.Test.YtkfillfkbhbbjaaGreatDoorNSpec
set_option maxRecDepth 100000
set_option maxHeartbeats 4000000
set_option linter.unusedSimpArgs false
set_option linter.unusedVariables false
namespace Go.Proofs.YtkfillfkbhbbjaaGreatDoor
theorem same_iff' {a b : ByteArray} : same a b = true ↔ a = b := by
 unfold same;rw [beq_iff_eq]
 constructor
 ·intro h
  cases a with | mk x => cases b with | mk y => exact congrArg ByteArray.mk (Array.toList_inj.1 h)
 rintro rfl; rfl
theorem teq_iff' {a b : Thing} : teq a b = true ↔ a = b := by
 unfold teq;rw [Bool.and_eq_true, beq_iff_eq, same_iff', Prod.ext_iff]
abbrev Links := List (Thing × Thing)
theorem alook_append (t a b : Thing) : ∀ m : Links, alook t (m ++ [(a, b)]) = match alook t m with
  | some u => some u
  | none => if t = a then some b else none
 | [] => by
   simp only [List.nil_append, alook]
   by_cases h : t = a
   ·rw [if_pos (teq_iff'.2 h), if_pos h]
   rw [if_neg (fun k => h (teq_iff'.1 k)), if_neg h]
 | x :: m => by
   simp only [List.cons_append, alook]
   split
   ·rfl
   exact alook_append t a b m
def rt (m : Links) (t : Thing) : Thing := m.foldl (fun r x => if r = x.1 then x.2 else r) t
theorem rt_append (m : Links) (a b t : Thing) : rt (m ++ [(a, b)]) t = if rt m t = a then b else rt m t := by unfold rt; rw [List.foldl_append]; rfl
inductive WfS : Links → Prop
 | nil : WfS []
 | add {m : Links} {a b : Thing} (h : WfS m) (ha : alook a m = none) (hb : alook b m = none) (hab : a ≠ b) : WfS (m ++ [(a, b)])
theorem rootF_add {m : Links} {a b : Thing} (hb : alook b m = none) (hab : a ≠ b) : ∀ {f : Nat} {t r : Thing}, rootF m f t = some r → rootF (m ++ [(a, b)]) (f + 1) t = some (if r = a then b else r)
 | 0, t, r, h => by cases h
 | f + 1, t, r, h => by
   rw [rootF] at h
   cases ha : alook t m with
   | none =>
    rw [ha] at h;simp only [Option.some.injEq] at h;subst h;rw [rootF, alook_append, ha]
    by_cases hta : t = a
    ·rw [if_pos hta, if_pos hta];simp only;rw [rootF, alook_append, hb, if_neg (fun h => hab h.symm)]
    rw [if_neg hta, if_neg hta]
   | some u =>
    rw [ha] at h;simp only at h;rw [rootF, alook_append, ha];exact rootF_add hb hab h
theorem WfS.root {m : Links} (h : WfS m) : ∀ t, rootF m (m.length + 1) t = some (rt m t) := by
 induction h with
 | nil => intro t; rfl
 | add h ha hb hab ih =>
  intro t;rw [List.length_append, List.length_singleton, rt_append];exact rootF_add hb hab (ih t)
theorem rootF_look {m : Links} : ∀ {f : Nat} {t r : Thing}, rootF m f t = some r → alook r m = none
 | 0, t, r, h => by cases h
 | f + 1, t, r, h => by
   rw [rootF] at h
   cases ha : alook t m with
   | none => rw [ha] at h; simp only [Option.some.injEq] at h; exact h ▸ ha
   | some u => rw [ha] at h; exact rootF_look h
theorem WfS.look {m : Links} (h : WfS m) (t : Thing) : alook (rt m t) m = none := rootF_look (h.root t)
theorem rootN_eq {st : NS} (h : WfS st.same) (t : Thing) : rootN st t = some (rt st.same t) := h.root t
def linkS (m : Links) (a p : Thing) : Links := if rt m a = rt m p then m else m ++ [(rt m a, rt m p)]
theorem WfS.link {m : Links} (h : WfS m) (a p : Thing) : WfS (linkS m a p) := by
 unfold linkS; split
 ·exact h
 rename_i hne; exact .add h (h.look a) (h.look p) hne
theorem nSee_same (st : NS) (t : Thing) : (nSee st t).same = st.same := by unfold nSee; split <;> rfl
theorem link_eq {st : NS} (h : WfS st.same) (a p : Thing) (re im : Nat) : nEv st (.link a p re im) = some { nSee st a with same := linkS st.same a p } := by
 have hs : WfS (nSee st a).same := by rw [nSee_same]; exact h
 simp only [nEv, rootN_eq hs, Option.bind_some, nSee_same, linkS]
 by_cases ht : rt st.same a = rt st.same p
 ·rw [if_pos (teq_iff'.2 ht), if_pos ht];have : (nSee st a).same = st.same := nSee_same _ _
  cases h : nSee st a; simp_all
 rw [if_neg (fun k => ht (teq_iff'.1 k)), if_neg ht]
/-! ### a node is spoken of, if it is small -/
mutual
def nsize : Node → Nat
 | .mk _ _ _ kids _ _ => 1 + ksize kids
def ksize : List Node → Nat
 | [] => 0
 | k :: l => nsize k + ksize l
end
theorem nsize_pos (n : Node) : 0 < nsize n := by cases n; rw [nsize]; omega
theorem ksize_len : ∀ l : List Node, l.length ≤ ksize l
 | [] => Nat.le_refl _
 | k :: l => by have := ksize_len l; have := nsize_pos k; rw [ksize, List.length_cons]; omega
structure Grew (st st' : NS) (n : Nat) : Prop where
 uses : st'.uses.length ≤ st.uses.length + n
 seen : st'.seen.length ≤ st.seen.length + n
 same : WfS st'.same
 loops : st'.loops = st.loops
 fn : st'.fn = st.fn
 rule : st'.rule = st.rule
theorem Grew.trans {a b c : NS} {n m k : Nat} (h : Grew a b n) (g : Grew b c m) (hk : n + m ≤ k) : Grew a c k :=
 ⟨by have := h.uses; have := g.uses; omega, by have := h.seen; have := g.seen; omega, g.same, g.loops.trans h.loops, g.fn.trans h.fn, g.rule.trans h.rule⟩
theorem grew_fault {st : NS} (h : WfS st.same) (re im : Nat) (e : Int) : Grew st (faultF st re im e) 0 := by
 unfold faultF; split <;> exact ⟨Nat.le_refl _, Nat.le_refl _, h, rfl, rfl, rfl⟩
theorem grew_refl {st : NS} (h : WfS st.same) : Grew st st 0 := ⟨Nat.le_refl _, Nat.le_refl _, h, rfl, rfl, rfl⟩
theorem grew_named {g : ProgP} {st : NS} (h : WfS st.same) (n : Node) : Grew st (namedF g st n) 0 := by
 unfold namedF; split
 ·exact grew_fault h _ _ _
 exact grew_refl h
theorem grew_see {st : NS} (h : WfS st.same) (t : Thing) : (nSee st t).uses = st.uses ∧ Grew st (nSee st t) 1 := by
 unfold nSee seePut; split
 ·refine ⟨rfl, Nat.le_succ _, ?_, h, rfl, rfl, rfl⟩;simp only; split
  ·omega
  simp
 exact ⟨rfl, Nat.le_succ _, Nat.le_succ _, h, rfl, rfl, rfl⟩
def RecT (_ : ProgP) (rec : NRec) (f : Nat) : Prop := ∀ n st, nsize n ≤ f → WfS st.same → st.uses.length + (2 * nsize n - 1) ≤ 400000 → 0 ≤ st.loops → st.loops + (nsize n : Int) ≤ 900000 → ∃ st', rec st n = some st' ∧ Grew st st' (2 * nsize n - 1)
def KidT (st : NS) (l : List Node) (r : Option NS) : Prop := WfS st.same → st.uses.length + 2 * ksize l ≤ 400000 → 0 ≤ st.loops → st.loops + (ksize l : Int) ≤ 900000 → ∃ st', r = some st' ∧ Grew st st' (2 * ksize l)
theorem grew_for {st : NS} (h : WfS st.same) (lp : Bool) (i : Nat) (k : Node) : Grew st (forF lp i st k) 0 := by
 unfold forF; split
 ·exact grew_fault h _ _ _
 exact grew_refl h
theorem kid_tot {st s0 : NS} {k : Node} {l : List Node} {r : Option NS} {F : NS → Option NS} {n : Nat} (hn : n ≤ 1) (g0 : WfS st.same → Grew st s0 n) (hr : WfS s0.same → s0.uses.length + (2 * nsize k - 1) ≤ 400000 → 0 ≤ s0.loops → s0.loops + (nsize k : Int) ≤ 900000 → ∃ s1, r = some s1 ∧ Grew s0 s1 (2 * nsize k - 1)) (hl : ∀ s1, KidT s1 l (F s1)) : KidT st (k :: l) (r.bind F) := by
 intro hs hu h0 hb;have g0 := g0 hs;have hk := nsize_pos k;have e0 := g0.loops; have u0 := g0.uses;rw [ksize] at hu hb ⊢;obtain ⟨s1, h1, g1⟩ := hr g0.same qg qg qg;have g01 := g0.trans g1 (Nat.le_refl _);have e1 := g01.loops; have u1 := g01.uses;obtain ⟨s2, h2, g2⟩ := hl s1 g01.same qg qg qg;exact ⟨s2, by rw [h1, Option.bind_some, h2], g01.trans g2 qg⟩
theorem kid_nil {st st' : NS} (h : st' = st) : KidT st [] (some st') := by subst h; exact fun hs _ _ _ => ⟨_, rfl, grew_refl hs⟩
theorem kidsW_tot {g : ProgP} {rec : NRec} {f : Nat} (hr : RecT g rec f) (lp : Bool) : ∀ (l : List Node) (i : Nat) (st : NS), ksize l ≤ f → KidT st l (kidsW rec lp i l st)
 | [], i, st, _ => kid_nil rfl
 | k :: l, i, st, hf => by
   rw [ksize] at hf;exact kid_tot (n := 0) qg (fun h => grew_for h lp i k) (fun h1 h2 h3 h4 => hr k _ qg h1 h2 h3 h4) fun s1 => kidsW_tot hr lp l (i + 1) s1 qg
theorem use_tot {st : NS} (u : Use) (hs : WfS st.same) (hu : st.uses.length < 400000) : ∃ st', useF st u = some st' ∧ Grew st st' 1 ∧ st'.uses.length = st.uses.length + 1 ∧ st'.seen = st.seen := by
 unfold useF;rw [if_pos hu];exact ⟨_, rfl, ⟨by simp, Nat.le_succ _, hs, rfl, rfl, rfl⟩, by simp, rfl⟩
theorem name_tot {g : ProgP} {st : NS} (n k : Node) (f : NS → Thing → Use) (hs : WfS st.same) (hu : st.uses.length < 400000) : ∃ st', useF (ofF g (namedF g st n) k.name).2 (f (namedF g st n) (ofF g (namedF g st n) k.name).1) = some st' ∧ Grew st st' 1 := by
 have g0 := grew_named (g := g) hs n;rw [ofF_eq];obtain ⟨e1, g1⟩ := grew_see g0.same (resT g (namedF g st n).fn k.name);have u0 := g0.uses;obtain ⟨s2, h2, g2, u2, d2⟩ := use_tot (f (namedF g st n) (resT g (namedF g st n).fn k.name)) g1.same (by rw [e1]; omega);have l0 := g0.seen; have l1 := g1.seen;exact ⟨s2, h2, ⟨by rw [u2, e1]; omega, by rw [d2]; omega, g2.same, by rw [g2.loops, g1.loops, g0.loops], by rw [g2.fn, g1.fn, g0.fn], by rw [g2.rule, g1.rule, g0.rule]⟩⟩
theorem callF_tot {g : ProgP} {rec : NRec} {f : Nat} (hr : RecT g rec f) (fn : Nat) : ∀ (l : List Node) (ps : List ByteArray) (st : NS), l.length ≤ ps.length → ksize l ≤ f → KidT st l (callF g rec fn ps l st)
 | [], ps, st, _, _ => by rw [callF]; exact kid_nil rfl
 | k :: l, [], st, hp, _ => by simp at hp
 | k :: l, p :: ps, st, hp, hf => by
   rw [ksize] at hf;have hp' : l.length ≤ ps.length := by simpa using hp
   rw [callF]
   by_cases h4 : k.kind = 4
   ·rw [if_neg (by simp [h4])];intro hs;have g0 := grew_named (g := g) hs k;obtain ⟨e1, g1⟩ := grew_see g0.same (resT g (namedF g st k).fn k.name);have g01 := g0.trans g1 (Nat.le_refl _);rw [ofF_eq];simp only [rootN_eq g01.same, Option.bind_eq_bind, Option.bind_some]
    revert hs
    generalize nSee (namedF g st k) (resT g (namedF g st k).fn k.name) = s1 at *
    have key : ∀ (b : Bool) (x y : Thing), (b = false → x ≠ y ∧ alook x s1.same = none ∧ alook y s1.same = none) → KidT st (k :: l) (callF g rec fn ps l (if b = true then s1 else { s1 with same := s1.same ++ [(x, y)] })) := by
     intro b x y hb
     have g2 : Grew s1 (if b = true then s1 else { s1 with same := s1.same ++ [(x, y)] }) 0 := by
      cases b with
      | true => exact grew_refl g01.same
      | false => exact ⟨Nat.le_refl _, Nat.le_refl _, .add g01.same (hb rfl).2.1 (hb rfl).2.2 (hb rfl).1, rfl, rfl, rfl⟩
     have := kid_tot (st := st) (k := k) (l := l) (r := some (if b = true then s1 else { s1 with same := s1.same ++ [(x, y)] })) (F := callF g rec fn ps l) (n := 1) (Nat.le_refl _) (fun _ => g01.trans g2 (Nat.le_refl _)) (fun h _ _ _ => ⟨_, rfl, ⟨by omega, by omega, h, rfl, rfl, rfl⟩⟩) fun s1 => callF_tot hr fn l ps s1 hp' qg
     exact this
    refine key _ _ _ fun hb => ⟨fun he => ?_, g01.same.look _, g01.same.look _⟩
    rw [teq_iff'.2 he] at hb; cases hb
   rw [if_pos h4];intro hs hu;have hk := nsize_pos k;obtain ⟨s1, h1, g1, -⟩ := use_tot (st := st) ⟨k.re, k.im, noT, false, (fn, p), true, false⟩ hs (by rw [ksize] at hu; omega);rw [h1];exact kid_tot (st := st) (s0 := s1) (F := callF g rec fn ps l) (n := 1) (Nat.le_refl _) (fun _ => g1) (fun h1 h2 h3 h4 => hr k _ qg h1 h2 h3 h4) (fun s1 => callF_tot hr fn l ps s1 hp' qg) hs hu
theorem bltF_tot {g : ProgP} {rec : NRec} {f : Nat} (hr : RecT g rec f) (arr : Int) : ∀ (l : List Node) (i : Nat) (st : NS), ksize l ≤ f → KidT st l (bltF g rec arr i l st)
 | [], i, st, _ => kid_nil rfl
 | k :: l, i, st, hf => by
   rw [ksize] at hf;rw [bltF]
   by_cases ha : (i : Int) = arr
   ·rw [if_pos ha];unfold arrF
    by_cases h4 : k.kind = 4
    ·rw [if_pos h4];intro hs hu;have hk := nsize_pos k;obtain ⟨s1, h1, g1⟩ := name_tot (g := g) (st := st) k k (fun _ t => ⟨k.re, k.im, t, true, noT, false, false⟩) hs (by rw [ksize] at hu; omega);rw [h1];exact kid_tot (st := st) (s0 := s1) (r := some s1) (F := bltF g rec arr (i + 1) l) (n := 1) (Nat.le_refl _) (fun _ => g1) (fun h _ _ _ => ⟨_, rfl, ⟨by omega, by omega, h, rfl, rfl, rfl⟩⟩) (fun s1 => bltF_tot hr arr l (i + 1) s1 qg) hs hu
    rw [if_neg h4];intro hs hu;have hk := nsize_pos k;obtain ⟨s1, h1, g1, -⟩ := use_tot (st := st) ⟨k.re, k.im, noT, false, noT, false, true⟩ hs (by rw [ksize] at hu; omega);rw [h1];exact kid_tot (st := st) (s0 := s1) (F := bltF g rec arr (i + 1) l) (n := 1) (Nat.le_refl _) (fun _ => g1) (fun h1 h2 h3 h4 => hr k _ qg h1 h2 h3 h4) (fun s1 => bltF_tot hr arr l (i + 1) s1 qg) hs hu
   rw [if_neg ha];exact kid_tot (st := st) (s0 := st) (F := bltF g rec arr (i + 1) l) (n := 0) qg (fun h => grew_refl h) (fun h1 h2 h3 h4 => hr k _ qg h1 h2 h3 h4) (fun s1 => bltF_tot hr arr l (i + 1) s1 qg)
theorem grew_sub {st : NS} (h : WfS st.same) (nm : ByteArray) (kids : List Node) : Grew st (subF nm st kids) 0 := by
 unfold subF; split
 ·split
  ·exact grew_fault h _ _ _
  exact grew_refl h
 exact grew_refl h
theorem lenF_some {g : ProgP} {nm : ByteArray} {st s1 : NS} {kids : List Node} (h : lenF g nm st kids = some s1) : ∃ k, kids = [k] ∧ s1 = (ofF g (namedF g st k) k.name).2 := by
 match kids, h with
 | [k], h =>
  rw [lenF] at h
  split at h
  ·cases h; exact ⟨k, rfl, rfl⟩
  cases h
 | [], h => cases h
 | _ :: _ :: _, h => cases h
theorem builtF_tot {g : ProgP} {rec : NRec} {f : Nat} (hr : RecT g rec f) (nm : ByteArray) (kids : List Node) (re im : Nat) (st : NS) (hf : ksize kids ≤ f) : KidT st kids (builtF g rec st nm kids re im) := by
 intro hs hu h0 hb;unfold builtF
 split
 ·have g0 := grew_fault hs re im 31;exact ⟨_, rfl, g0.trans (grew_refl g0.same) (Nat.zero_le _)⟩
 split
 ·rename_i s1 hl;obtain ⟨k, rfl, rfl⟩ := lenF_some hl;have g0 := grew_named (g := g) hs k;rw [ofF_eq];obtain ⟨-, g1⟩ := grew_see g0.same (resT g (namedF g st k).fn k.name);have hk := nsize_pos k;exact ⟨_, rfl, g0.trans g1 (by simp only [ksize]; omega)⟩
 have g0 := grew_sub hs nm kids;have e0 := g0.loops; have u0 := g0.uses;obtain ⟨s1, h1, g1⟩ := bltF_tot hr (arrAt nm) kids 0 (subF nm st kids) hf g0.same qg qg qg;exact ⟨s1, h1, g0.trans g1 qg⟩
theorem preW_tot {g : ProgP} {st : NS} {k : Int} {nm : ByteArray} {x : Nat} {kids : List Node} {re im : Nat} (hs : WfS st.same) (hu : st.uses.length < 400000) : ∃ st', preW g st (.mk k nm x kids re im) = some st' ∧ Grew st st' 1 := by
 have z : ∀ {s : NS}, Grew st s 0 → Grew st s 1 := fun g => g.trans (grew_refl g.same) qg
 rw [preW_mk]
 split
 ·exact name_tot (g := g) (st := st) (.mk k nm x kids re im) (.mk k nm x kids re im) (fun _ t => ⟨re, im, t, false, noT, false, false⟩) hs hu
 split
 ·exact name_tot (g := g) (st := st) (.mk k nm x kids re im) (.mk k nm x kids re im) (fun _ t => ⟨re, im, t, true, noT, false, false⟩) hs hu
 split
 ·split
  ·exact qob
  exact zpb
 split
 ·split
  ·exact qob
  exact zpb
 split
 ·split
  ·exact qob
  exact zpb
 exact zpb
theorem stepW_tot {g : ProgP} {rec : NRec} {f : Nat} (hr : RecT g rec f) : RecT g (stepW g rec) (f + 1) := by
 intro n st hf hs hu h0 hb;obtain ⟨k, nm, x, kids, re, im⟩ := n;rw [nsize] at hf hu hb ⊢;have hlen := ksize_len kids;rw [stepW_mk, if_neg qg];have z : ∀ {s : NS}, Grew st s (2 * ksize kids) → Grew st s (2 * (1 + ksize kids) - 1) := fun g => g.trans (grew_refl g.same) qg
 have zf : ∀ (e : Int), Grew st (faultF st re im e) (2 * (1 + ksize kids) - 1) := fun e => (grew_fault hs re im e).trans (grew_refl (grew_fault hs re im e).same) qg
 split
 ·split
  ·exact ⟨_, rfl, zf _⟩
  split
  ·exact ⟨_, rfl, zf _⟩
  rename_i hp;obtain ⟨s1, h1, g1⟩ := callF_tot hr (flook g nm) kids (paramsOf g (flook g nm)) st qg qg hs qg h0 qg;exact ⟨s1, h1, z g1⟩
 split
 ·obtain ⟨s1, h1, g1⟩ := builtF_tot hr nm kids re im st qg hs qg h0 qg;exact ⟨s1, h1, z g1⟩
 obtain ⟨s1, h1, g1⟩ := preW_tot (g := g) (st := st) (k := k) (nm := nm) (x := x) (kids := kids) (re := re) (im := im) hs qg;have e1 := g1.loops; have u1 := g1.uses;rw [h1, Option.bind_some]
 split
 ·rw [if_neg qg];obtain ⟨s2, h2, g2⟩ := kidsW_tot hr (k == 34) kids 0 { s1 with loops := s1.loops + 1 } qg g1.same zab zab zab
  have e2 := g2.loops;simp only at e2;rw [h2, Option.bind_some, if_neg qg];refine ⟨_, rfl, ⟨?_, ?_, g2.same, ?_, ?_, ?_⟩⟩
  ·have := g2.uses; simp only at this ⊢; omega
  ·have := g2.seen; have := g1.seen; simp only at *; omega
  ·simp only; omega
  ·exact g2.fn.trans g1.fn
  exact g2.rule.trans g1.rule
 obtain ⟨s2, h2, g2⟩ := kidsW_tot hr false kids 0 s1 qg g1.same qg qg qg;exact ⟨s2, h2, g1.trans g2 qg⟩
theorem nodeW_tot (g : ProgP) : ∀ fu, RecT g (nodeW g fu) fu
 | 0 => fun n _ h => by have := nsize_pos n; omega
 | fu + 1 => stepW_tot (nodeW_tot g fu)
end Go.Proofs.YtkfillfkbhbbjaaGreatDoor
namespace Go.Proofs.YtkfillfkbhbbjaaGreatDoor
open Go.RowKit
def Nd (b Z : Nat) (W : World) (v : Value) : Prop := ∃ n, NodeR W (fun g => b ≤ g) n v ∧ wfN n ∧ nsize n ≤ Z
def Kd (b Z : Nat) (W : World) (v : Value) : Prop := ∃ ns, KidsR W (fun g => b ≤ g) ns v ∧ wfK ns ∧ ksize ns ≤ Z
theorem Nd.step {b Z : Nat} {W W' : World} {v : Value} {fp : List Nat} (h : Nd b Z W v) (hk : Keeps fp W W') (hf : ∀ x ∈ fp, x < b) : Nd b Z W' v := by
 obtain ⟨n, h1, h2⟩ := h;exact jpb
theorem Nd.to {b b' Z Z' : Nat} {W : World} {v : Value} (h : Nd b Z W v) (hb : b' ≤ b) (hZ : Z ≤ Z') : Nd b' Z' W v := by
 obtain ⟨n, h1, h2, h3⟩ := h;exact ⟨n, h1.keep (Keeps.refl [] W) jg fun x hx => Nat.le_trans hb hx, h2, by omega⟩
theorem Kd.step {b Z : Nat} {W W' : World} {v : Value} {fp : List Nat} (h : Kd b Z W v) (hk : Keeps fp W W') (hf : ∀ x ∈ fp, x < b) : Kd b Z W' v := by
 obtain ⟨n, h1, h2⟩ := h;exact jpb
theorem Kd.nil (b : Nat) (W : World) : Kd b 0 W (.slice none 0 0) := ⟨[], .nil, trivial, Nat.le_refl _⟩
theorem Nd.shape {b Z : Nat} {W : World} {v : Value} (h : Nd b Z W v) : ∃ (k : Int) (nm : ByteArray) (nu : Nat) (a : Option Addr) (l c re im : Nat), v = .agg #[.int .i64 k, .string nm, .float .f64 nu, .slice a l c, .complex .f64 re im] := by
 obtain ⟨n, h1, -⟩ := h;obtain ⟨nm, nu, a, l, c, re, im, e, -⟩ := h1.shape;exact ⟨_, nm, nu, a, l, c, re, im, e⟩
theorem Nd.mk {b Z : Nat} {W : World} {kd : Int} {nm : ByteArray} {nu re im : Nat} {a : Option Addr} {l c : Nat} (h : Kd b Z W (.slice a l c)) (hk : kd ≠ 4) : Nd b (Z + 1) W (.agg #[.int .i64 kd, .string nm, .float .f64 nu, .slice a l c, .complex .f64 re im]) := by
 obtain ⟨ns, h1, h2, h3⟩ := h;refine ⟨.mk kd nm nu ns re im, .mk h1, ?_, ?_⟩
 ·rw [wfN]; exact ⟨fun e => absurd e hk, h2⟩
 rw [nsize]; omega
theorem Nd.leaf (b : Nat) (W : World) (kd : Int) (nm : ByteArray) (nu re im : Nat) : Nd b 1 W (.agg #[.int .i64 kd, .string nm, .float .f64 nu, .slice none 0 0, .complex .f64 re im]) := by
 refine ⟨.mk kd nm nu [] re im, .mk .nil, ?_, ?_⟩
 ·rw [wfN]; exact ⟨fun _ => rfl, trivial⟩
 rw [nsize, ksize]; omega
theorem Kd.row1 {b Z : Nat} {W : World} {G : Nat} {f : Nat × Nat} {a0 a1 a2 a3 a4 : Value} (h : W.heap[G]? = some (.cells #[a0, a1, a2, a3, a4] 50 f)) (hb : b ≤ G) (h1 : Nd b Z W (.agg #[a0, a1, a2, a3, a4])) : Kd b Z W (.slice (some ⟨G, 0, none⟩) 1 1) := by
 obtain ⟨n, q1, q2, q3⟩ := h1;refine ⟨[n], .some hb (h_lt h) (.cons q1 (cell_of_heap h 0) (cell_of_heap h 1) (cell_of_heap h 2) (cell_of_heap h 3) (cell_of_heap h 4) .nil), ⟨q2, trivial⟩, ?_⟩;rw [ksize, ksize]; omega
theorem Kd.row2 {b Z Z2 : Nat} {W : World} {G : Nat} {f : Nat × Nat} {a0 a1 a2 a3 a4 b0 b1 b2 b3 b4 : Value} (h : W.heap[G]? = some (.cells #[a0, a1, a2, a3, a4, b0, b1, b2, b3, b4] 50 f)) (hb : b ≤ G) (h1 : Nd b Z W (.agg #[a0, a1, a2, a3, a4])) (h2 : Nd b Z2 W (.agg #[b0, b1, b2, b3, b4])) : Kd b (Z + Z2) W (.slice (some ⟨G, 0, none⟩) 2 2) := by
 obtain ⟨n, q1, q2, q3⟩ := h1;obtain ⟨n2, p1, p2, p3⟩ := h2;refine ⟨[n, n2], .some hb (h_lt h) (.cons q1 (cell_of_heap h 0) (cell_of_heap h 1) (cell_of_heap h 2) (cell_of_heap h 3) (cell_of_heap h 4) (.cons p1 (cell_of_heap h 5) (cell_of_heap h 6) (cell_of_heap h 7) (cell_of_heap h 8) (cell_of_heap h 9) .nil)), ⟨q2, p2, trivial⟩, ?_⟩;rw [ksize, ksize, ksize]; omega
theorem Kd.row3 {b Z Z2 Z3 : Nat} {W : World} {G : Nat} {f : Nat × Nat} {a0 a1 a2 a3 a4 b0 b1 b2 b3 b4 c0 c1 c2 c3 c4 : Value} (h : W.heap[G]? = some (.cells #[a0, a1, a2, a3, a4, b0, b1, b2, b3, b4, c0, c1, c2, c3, c4] 50 f)) (hb : b ≤ G) (h1 : Nd b Z W (.agg #[a0, a1, a2, a3, a4])) (h2 : Nd b Z2 W (.agg #[b0, b1, b2, b3, b4])) (h3 : Nd b Z3 W (.agg #[c0, c1, c2, c3, c4])) : Kd b (Z + (Z2 + Z3)) W (.slice (some ⟨G, 0, none⟩) 3 3) := by
 obtain ⟨n, q1, q2, q3⟩ := h1;obtain ⟨n2, p1, p2, p3⟩ := h2;obtain ⟨n3, r1, r2, r3⟩ := h3;refine ⟨[n, n2, n3], .some hb (h_lt h) (.cons q1 (cell_of_heap h 0) (cell_of_heap h 1) (cell_of_heap h 2) (cell_of_heap h 3) (cell_of_heap h 4) (.cons p1 (cell_of_heap h 5) (cell_of_heap h 6) (cell_of_heap h 7) (cell_of_heap h 8) (cell_of_heap h 9) (.cons r1 (cell_of_heap h 10) (cell_of_heap h 11) (cell_of_heap h 12) (cell_of_heap h 13) (cell_of_heap h 14) .nil))), ⟨q2, p2, r2, trivial⟩, ?_⟩;rw [ksize, ksize, ksize, ksize]; omega
theorem Kd.row4 {b Z Z2 Z3 Z4 : Nat} {W : World} {G : Nat} {f : Nat × Nat} {a0 a1 a2 a3 a4 b0 b1 b2 b3 b4 c0 c1 c2 c3 c4 d0 d1 d2 d3 d4 : Value} (h : W.heap[G]? = some (.cells #[a0, a1, a2, a3, a4, b0, b1, b2, b3, b4, c0, c1, c2, c3, c4, d0, d1, d2, d3, d4] 50 f)) (hb : b ≤ G) (h1 : Nd b Z W (.agg #[a0, a1, a2, a3, a4])) (h2 : Nd b Z2 W (.agg #[b0, b1, b2, b3, b4])) (h3 : Nd b Z3 W (.agg #[c0, c1, c2, c3, c4])) (h4 : Nd b Z4 W (.agg #[d0, d1, d2, d3, d4])) : Kd b (Z + (Z2 + (Z3 + Z4))) W (.slice (some ⟨G, 0, none⟩) 4 4) := by
 obtain ⟨n, q1, q2, q3⟩ := h1;obtain ⟨n2, p1, p2, p3⟩ := h2;obtain ⟨n3, r1, r2, r3⟩ := h3;obtain ⟨n4, s1, s2, s3⟩ := h4;refine ⟨[n, n2, n3, n4], .some hb (h_lt h) (.cons q1 (cell_of_heap h 0) (cell_of_heap h 1) (cell_of_heap h 2) (cell_of_heap h 3) (cell_of_heap h 4) (.cons p1 (cell_of_heap h 5) (cell_of_heap h 6) (cell_of_heap h 7) (cell_of_heap h 8) (cell_of_heap h 9) (.cons r1 (cell_of_heap h 10) (cell_of_heap h 11) (cell_of_heap h 12) (cell_of_heap h 13) (cell_of_heap h 14) (.cons s1 (cell_of_heap h 15) (cell_of_heap h 16) (cell_of_heap h 17) (cell_of_heap h 18) (cell_of_heap h 19) .nil)))), ⟨q2, p2, r2, s2, trivial⟩, ?_⟩;rw [ksize, ksize, ksize, ksize, ksize]; omega
structure Bn (M : MKey) (I : Nat) (fn : Bool) (w W : World) : Prop where
 fix : MFix M
 lt : M.k < w.heap.size
 mak : MKB M I fn W
 keep : Keeps [M.k] w W
structure BnR (M : MKey) (I : Nat) (fn : Bool) (w W : World) : Prop extends toBn : Bn M I fn w W where
 res : W.heap[w.heap.size]? = some (.cells #[.int .i64 0, .string ⟨#[]⟩, .float .f64 0, .slice none 0 0, .complex .f64 0 0] 50 (0, 0))
theorem Bn.start {M : MKey} (hM : MFix M) {I : Nat} {fn : Bool} {w : World} (h : MKB M I fn w) : Bn M I fn w w := ⟨hM, h.lt, h, Keeps.refl _ _⟩
theorem Bn.call {M : MKey} {I J : Nat} {fn : Bool} {w W W' : World} (h : Bn M I fn w W) (hm : MKB M J fn W') (hk : Keeps [M.k] W W') : Bn M J fn w W' := ⟨h.fix, h.lt, hm, h.keep.trans hk jg⟩
theorem Bn.kp {M : MKey} {I : Nat} {fn : Bool} {w W W' : World} (h : Bn M I fn w W) (hk : Keeps [] W W') : Bn M I fn w W' := ⟨h.fix, h.lt, h.mak.kp0 h.fix hk, h.keep.trans hk jg⟩
theorem BnR.start {M : MKey} {I : Nat} {fn : Bool} {w W : World} (h : Bn M I fn w w) (hk : Keeps [] w W) (hr : W.heap[w.heap.size]? = some (.cells #[.int .i64 0, .string ⟨#[]⟩, .float .f64 0, .slice none 0 0, .complex .f64 0 0] 50 (0, 0))) : BnR M I fn w W := ⟨h.kp hk, hr⟩
theorem BnR.call {M : MKey} {I J : Nat} {fn : Bool} {w W W' : World} (h : BnR M I fn w W) (hm : MKB M J fn W') (hk : Keeps [M.k] W W') : BnR M J fn w W' :=
 ⟨h.toBn.call hm hk, hk.at h.res qv⟩
theorem BnR.kp {M : MKey} {I : Nat} {fn : Bool} {w W W' : World} (h : BnR M I fn w W) (hk : Keeps [] W W') : BnR M I fn w W' := ⟨h.toBn.kp hk, hk.at h.res jg⟩
theorem BnR.b {M : MKey} {I : Nat} {fn : Bool} {w W : World} (h : BnR M I fn w W) : w.heap.size + 1 ≤ W.heap.size := h_lt h.res
theorem BnR.node {M : MKey} {I : Nat} {fn : Bool} {w W W' : World} {Z : Nat} {v : Value} (h : BnR M I fn w W) (hn : Nd W.heap.size Z W' v) : Nd (w.heap.size + 1) Z W' v := hn.to h.b (Nat.le_refl _)
theorem BnR.nd {M : MKey} {I : Nat} {fn : Bool} {w W W' : World} {Z : Nat} {v : Value} (h : BnR M I fn w W) (hk : Keeps [M.k] W W') (hn : Nd (w.heap.size + 1) Z W v) : Nd (w.heap.size + 1) Z W' v := hn.step hk qv
def NodeP (M : MKey) (Z K I : Nat) (fn : Bool) (w : World) (r : Ending) (w' : World) : Prop := ∃ v, r = .returned v ∧ Nd w.heap.size Z w' v ∧ MKB M (I + K) fn w' ∧ Keeps [M.k] w w'
theorem BnR.fin {M : MKey} {I J K Z Z' : Nat} {fn : Bool} {w W U : World} {v : Value} (h : BnR M J fn w W) (hn : Nd (w.heap.size + 1) Z W v) (hU : Keeps [w.heap.size] W U) (hJ : J ≤ I + K) (hZ : Z ≤ Z') : NodeP M Z' K I fn w (.returned v) U :=
 ⟨v, rfl, (hn.step hU jg).to qg hZ, (h.mak.kp h.fix hU qv (by have := h.lt; have := h.fix.hk; simp; omega)).to hJ, h.keep.trans hU jg⟩
theorem NodeP.to {M : MKey} {Z Z' K K' I : Nat} {fn : Bool} {w w' : World} {r : Ending} (h : NodeP M Z K I fn w r w') (hZ : Z ≤ Z') (hK : K ≤ K') : NodeP M Z' K' I fn w r w' := by
 obtain ⟨v, h1, h2, h3, h4⟩ := h;exact ⟨v, h1, h2.to (Nat.le_refl _) hZ, h3.to qg, h4⟩
theorem n_any (kd : Int) (nm : ByteArray) (a : Option Addr) (l c : Nat) (w : World) : Calls Tryz.prog 32 #[.int .i64 kd, .string nm, .slice a l c] w fun r w' => r = .returned (.agg #[.int .i64 kd, .string nm, .float .f64 0, .slice a l c, .complex .f64 0 0]) ∧ Keeps [] w w' := by
 go_enter Tryz.func32, Tryz.ntmps32
 go_wp2_with fail
 refine ret_at (v := .agg #[.int .i64 kd, .string nm, .float .f64 0, .slice a l c, .complex .f64 0 0]) (fun W => Keeps [] w W ∧ W.heap[w.heap.size]? = some (.cells #[.int .i64 kd, .string nm, .float .f64 0, .slice a l c, .complex .f64 0 0] 50 (0, 0))) ⟨zg, ja⟩ (fun W hW => ?_) rfl (fun W hW => ⟨rfl, hW.1⟩);obtain ⟨-, x0, x1, x2, x3, x4, -⟩ := cf5 hW.2;exact qpb
theorem num_any (nu : Nat) (w : World) : Calls Tryz.prog 59 #[.float .f64 nu] w fun r w' => r = .returned (.agg #[.int .i64 1, .string ⟨#[]⟩, .float .f64 nu, .slice none 0 0, .complex .f64 0 0]) ∧ Keeps [] w w' := by
 go_enter Tryz.func59, Tryz.ntmps59
 go_wp2_with fail
 refine ret_at (v := .agg #[.int .i64 1, .string ⟨#[]⟩, .float .f64 nu, .slice none 0 0, .complex .f64 0 0]) (fun W => Keeps [] w W ∧ W.heap[w.heap.size]? = some (.cells #[.int .i64 1, .string ⟨#[]⟩, .float .f64 nu, .slice none 0 0, .complex .f64 0 0] 50 (0, 0))) ⟨zg, ja⟩ (fun W hW => ?_) rfl (fun W hW => ⟨rfl, hW.1⟩);obtain ⟨-, x0, x1, x2, x3, x4, -⟩ := cf5 hW.2;exact qpb
theorem one_int {M : MKey} (hM : MFix M) {I : Nat} {fn : Bool} {w : World} (h : MKB M I fn w) (hI : I < 1000000000000) (m : Nat) (hm : 0 < m) (hm2 : m ≤ 1000000) :
  Calls Tryz.prog 29 #[.pointer (some ⟨M.k, 0, none⟩), .int .i64 m] w fun r w' => ∃ z : Int, 0 ≤ z ∧ z < m ∧ r = .returned (.int .i64 z) ∧ MKB M (I + 1) fn w' ∧ Keeps [M.k] w w' :=
 (one_any hM h hI m hm hm2).mono fun r w' ⟨p, h1, h2, h3⟩ => ⟨p, by omega, by omega, h2, h3⟩
theorem Kd.mk {b Z : Nat} {W : World} {kd : Int} {nm : ByteArray} {nu re im : Nat} {a : Option Addr} {l c : Nat} (h : Kd b Z W (.slice a l c)) (hk : kd ≠ 4) : Nd b (Z + 1) W (.agg #[.int .i64 kd, .string nm, .float .f64 nu, .slice a l c, .complex .f64 re im]) := Nd.mk h hk
theorem BnR.kd {M : MKey} {I : Nat} {fn : Bool} {w W W' : World} {Z : Nat} {v : Value} (h : BnR M I fn w W) (hk : Keeps [M.k] W W') (hn : Kd (w.heap.size + 1) Z W v) : Kd (w.heap.size + 1) Z W' v := hn.step hk qv
def StrP (M : MKey) (K I : Nat) (fn : Bool) (w : World) (r : Ending) (w' : World) : Prop := ∃ s, r = .returned (.string s) ∧ MKB M (I + K) fn w' ∧ Keeps [M.k] w w'
theorem MKB.fnc {M : MKey} {I : Nat} {fn : Bool} {w : World} (h : MKB M I fn w) : w.cell? ⟨M.k, 3, none⟩ = some (.bool fn) := by
 obtain ⟨i, n, l, -, -, -, -, h⟩ := h;have := cell_of_heap h.row 3
 simpa using this
set_option maxHeartbeats 8000000 in
theorem scalar_any {M : MKey} {I : Nat} {fn : Bool} {w : World} (h : Bn M I fn w w) (hI : I + 4 ≤ 1000000000000) : Calls Tryz.prog 60 #[.pointer (some ⟨M.k, 0, none⟩)] w fun r w' => StrP M 4 I fn w r w' := by
 have H0 := zh h;clear h
 go_enter Tryz.func60, Tryz.ntmps60
 have hfn := MKB.fnc H0.out.mak;have l_k := H0.out.lt
 cases fn with
 | false =>
  go_wp2_with fail
  refine (one_int H0.out.fix H0.out.mak qg 12 qg qg).mono ?_;rintro r w1_ ⟨z, h0_z, h1_z, rfl, hm, hk⟩;have HB2 := zh (H0.out.call hm hk);clear hk hm H0;clear h0_z h1_z
  by_cases hz0 : z = 0
  ·subst hz0
   go_wp2_with fail
   refine (one_any HB2.out.fix HB2.out.mak qg 11 qg qg).mono ?_;rintro r w3_ ⟨q, hq_q, rfl, hm, hk⟩;have HB4 := zh (HB2.out.call hm hk);clear hk hm HB2;have ht_q := MKB.tab HB4.out.fix HB4.out.mak (g := 7) (j := q) qg hq_q;have hi_q : (q : Int) < 11 := by omega
   go_wp2_with fail
   clear ht_q hi_q;refine ret_at (v := .string (M.tb 7 q)) (fun U => Keeps [] w3_ U) zg (fun U hU => ?_) rfl (fun U hU => ?_)
   ·exact jnb
   exact zqb
  have hz : (z == 0) = false := beq_false_of_ne hz0
  go_wp2_with fail
  refine (one_any HB2.out.fix HB2.out.mak qg 4 qg qg).mono ?_;rintro r w5_ ⟨q, hq_q, rfl, hm, hk⟩;have HB6 := zh (HB2.out.call hm hk);clear hk hm HB2;have ht_q := MKB.tab HB6.out.fix HB6.out.mak (g := 6) (j := q) qg hq_q;have hi_q : (q : Int) < 4 := by omega
  go_wp2_with fail
  clear ht_q hi_q;refine ret_at (v := .string (M.tb 6 q)) (fun U => Keeps [] w5_ U) zg (fun U hU => ?_) rfl (fun U hU => ?_)
  ·exact jnb
  exact jqb
 | true =>
  go_wp2_with fail
  refine (one_int H0.out.fix H0.out.mak qg 2 qg qg).mono ?_;rintro r w7_ ⟨y, h0_y, h1_y, rfl, hm, hk⟩;have HB8 := zh (H0.out.call hm hk);clear hk hm H0;clear h0_y h1_y
  by_cases hy0 : y = 0
  ·subst hy0
   go_wp2_with fail
   refine ret_at (v := .string ⟨#[112]⟩) (fun U => Keeps [] w7_ U) zg (fun U hU => ?_) rfl (fun U hU => ?_)
   ·exact jnb
   exact ⟨_, rfl, ((HB8.out.mak).kp0 HB8.out.fix hU).to qg, HB8.out.keep.trans hU jg⟩
  have hy : (y == 0) = false := beq_false_of_ne hy0
  go_wp2_with fail
  refine (one_int HB8.out.fix HB8.out.mak qg 12 qg qg).mono ?_;rintro r w9_ ⟨z, h0_z, h1_z, rfl, hm, hk⟩;have HB10 := zh (HB8.out.call hm hk);clear hk hm HB8;clear h0_z h1_z
  by_cases hz0 : z = 0
  ·subst hz0
   go_wp2_with fail
   refine (one_any HB10.out.fix HB10.out.mak qg 11 qg qg).mono ?_;rintro r w11_ ⟨q, hq_q, rfl, hm, hk⟩;have HB12 := zh (HB10.out.call hm hk);clear hk hm HB10;have ht_q := MKB.tab HB12.out.fix HB12.out.mak (g := 7) (j := q) qg hq_q;have hi_q : (q : Int) < 11 := by omega
   go_wp2_with fail
   clear ht_q hi_q;refine ret_at (v := .string (M.tb 7 q)) (fun U => Keeps [] w11_ U) zg (fun U hU => ?_) rfl (fun U hU => ?_)
   ·exact jnb
   exact ⟨_, rfl, ((HB12.out.mak).kp0 HB12.out.fix hU).to qg, HB12.out.keep.trans hU jg⟩
  have hz : (z == 0) = false := beq_false_of_ne hz0
  go_wp2_with fail
  refine (one_any HB10.out.fix HB10.out.mak qg 4 qg qg).mono ?_;rintro r w13_ ⟨q, hq_q, rfl, hm, hk⟩;have HB14 := zh (HB10.out.call hm hk);clear hk hm HB10;have ht_q := MKB.tab HB14.out.fix HB14.out.mak (g := 6) (j := q) qg hq_q;have hi_q : (q : Int) < 4 := by omega
  go_wp2_with fail
  clear ht_q hi_q;refine ret_at (v := .string (M.tb 6 q)) (fun U => Keeps [] w13_ U) zg (fun U hU => ?_) rfl (fun U hU => ?_)
  ·exact jnb
  exact ⟨_, rfl, ((HB14.out.mak).kp0 HB14.out.fix hU).to qg, HB14.out.keep.trans hU jg⟩
theorem num_ex (nu : Nat) (w : World) : Calls Tryz.prog 59 #[.float .f64 nu] w fun r w' => ∃ u : Nat, r = .returned (.agg #[.int .i64 1, .string ⟨#[]⟩, .float .f64 u, .slice none 0 0, .complex .f64 0 0]) ∧ Keeps [] w w' :=
 (num_any nu w).mono fun r w' h => ⟨nu, h⟩
theorem BnR.here {M : MKey} {I : Nat} {fn : Bool} {w W : World} (h : BnR M I fn w W) : Bn M I fn W W := Bn.start h.fix h.mak
set_option maxHeartbeats 8000000 in
theorem array_any {M : MKey} {I : Nat} {fn : Bool} {w : World} (h : Bn M I fn w w) (hI : I + 2 ≤ 1000000000000) : Calls Tryz.prog 55 #[.pointer (some ⟨M.k, 0, none⟩)] w fun r w' => StrP M 2 I fn w r w' := by
 have H0 := zh h;clear h
 go_enter Tryz.func55, Tryz.ntmps55
 have hfn := MKB.fnc H0.out.mak;have l_k := H0.out.lt
 cases fn with
 | false =>
  go_wp2_with fail
  refine (one_int H0.out.fix H0.out.mak qg 2 qg qg).mono ?_;rintro r w1_ ⟨z, h0_z, h1_z, rfl, hm, hk⟩;have HB2 := zh (H0.out.call hm hk);clear hk hm H0;clear h0_z h1_z
  by_cases hz0 : z = 0
  ·subst hz0
   go_wp2_with fail
   refine ret_at (v := .string ⟨#[97]⟩) (fun U => Keeps [] w1_ U) zg (fun U hU => ?_) rfl (fun U hU => ?_)
   ·exact jnb
   exact qqb
  have hz : (z == 0) = false := beq_false_of_ne hz0
  go_wp2_with fail
  refine ret_at (v := .string ⟨#[98]⟩) (fun U => Keeps [] w1_ U) zg (fun U hU => ?_) rfl (fun U hU => ?_)
  ·exact jnb
  exact qqb
 | true =>
  go_wp2_with fail
  refine (one_int H0.out.fix H0.out.mak qg 3 qg qg).mono ?_;rintro r w3_ ⟨y, h0_y, h1_y, rfl, hm, hk⟩;have HB4 := zh (H0.out.call hm hk);clear hk hm H0;clear h0_y h1_y
  by_cases hy0 : y = 0
  ·subst hy0
   go_wp2_with fail
   refine ret_at (v := .string ⟨#[113]⟩) (fun U => Keeps [] w3_ U) zg (fun U hU => ?_) rfl (fun U hU => ?_)
   ·exact jnb
   exact zqb
  have hy : (y == 0) = false := beq_false_of_ne hy0
  go_wp2_with fail
  refine (one_int HB4.out.fix HB4.out.mak qg 2 qg qg).mono ?_;rintro r w5_ ⟨z, h0_z, h1_z, rfl, hm, hk⟩;have HB6 := zh (HB4.out.call hm hk);clear hk hm HB4;clear h0_z h1_z
  by_cases hz0 : z = 0
  ·subst hz0
   go_wp2_with fail
   refine ret_at (v := .string ⟨#[97]⟩) (fun U => Keeps [] w5_ U) zg (fun U hU => ?_) rfl (fun U hU => ?_)
   ·exact jnb
   exact jqb
  have hz : (z == 0) = false := beq_false_of_ne hz0
  go_wp2_with fail
  refine ret_at (v := .string ⟨#[98]⟩) (fun U => Keeps [] w5_ U) zg (fun U hU => ?_) rfl (fun U hU => ?_)
  ·exact jnb
  exact jqb
set_option maxHeartbeats 8000000 in
theorem leaf_any {M : MKey} {I : Nat} {fn : Bool} {w : World} (h : Bn M I fn w w) (hI : I + 6 ≤ 1000000000000) : Calls Tryz.prog 33 #[.pointer (some ⟨M.k, 0, none⟩)] w fun r w' => NodeP M 2 6 I fn w r w' := by
 have H0 := zh h;clear h
 go_enter Tryz.func33, Tryz.ntmps33
 go_wp2_with fail
 refine zrb ?_;rintro w1 ⟨hk, hr⟩;have HB1 := zh (BnR.start H0.out hk hr);clear hk hr H0
 go_wp2_with fail
 refine (one_int HB1.out.fix HB1.out.mak qg 6 qg qg).mono ?_;rintro r w7_ ⟨z, h0_z, h1_z, rfl, hm, hk⟩;have HB8 := zh (HB1.out.call hm hk);clear hk hm HB1;have hz : z = 0 ∨ z = 1 ∨ z = 2 ∨ z = 3 ∨ z = 4 ∨ z = 5 := by omega
 clear h0_z h1_z
 rcases hz with rfl | rfl | rfl | rfl | rfl | rfl
 ·go_wp2_with fail
  refine (one_any HB8.out.fix HB8.out.mak qg 8 qg qg).mono ?_;rintro r w9_ ⟨q, hq_q, rfl, hm, hk⟩;have HB10 := zh (HB8.out.call hm hk);clear hk hm HB8;have ht_q := MKB.num HB10.out.fix HB10.out.mak (j := q) hq_q;have hi_q : (q : Int) < 8 := by omega
  go_wp2_with fail
  clear ht_q hi_q;refine (num_ex _ _).mono ?_;rintro r w11_ ⟨nu11, rfl, hk⟩;have HB12 := zh (HB10.out.kp hk);clear hk HB10;have HM11 : Hid (Nd (w.heap.size + 1) 1 w11_ (.agg #[.int .i64 1, .string ⟨#[]⟩, .float .f64 nu11, .slice none 0 0, .complex .f64 0 0])) := zh (Nd.leaf _ _ _ _ _ _ _);obtain ⟨l_R, xR_0, xR_1, xR_2, xR_3, xR_4, yR_0, yR_1, yR_2, yR_3, yR_4⟩ := cf5 HB12.out.res
  go_wp2_with fail
  refine ret_at (v := .agg #[.int .i64 1, .string ⟨#[]⟩, .float .f64 nu11, .slice none 0 0, .complex .f64 0 0]) (fun U => Keeps [w.heap.size] w11_ U ∧ U.heap[w.heap.size]? = some (.cells #[.int .i64 1, .string ⟨#[]⟩, .float .f64 nu11, .slice none 0 0, .complex .f64 0 0] 50 (0, 0))) ⟨zg, (za HB12.out.res)⟩ (fun U hU => ?_) rfl (fun U hU => ?_)
  ·obtain ⟨-, x0, x1, x2, x3, x4, -⟩ := cf5 hU.2;exact qpb
  exact HB12.out.fin HM11.out hU.1 qg qg
 ·go_wp2_with fail
  refine (one_any HB8.out.fix HB8.out.mak qg 9 qg qg).mono ?_;rintro r w13_ ⟨q, hq_q, rfl, hm, hk⟩;have HB14 := zh (HB8.out.call hm hk);clear hk hm HB8;have ht_q := MKB.tab HB14.out.fix HB14.out.mak (g := 5) (j := q) qg hq_q;have hi_q : (q : Int) < 9 := by omega
  go_wp2_with fail
  clear ht_q hi_q;refine jrb ?_;rintro r w15_ ⟨rfl, hk⟩;have HB16 := zh (HB14.out.kp hk);clear hk HB14;have HH15 : Hid (Nd (w.heap.size + 1) 1 w15_ (.agg #[.int .i64 2, .string (M.tb 5 q), .float .f64 0, .slice none 0 0, .complex .f64 0 0])) := zh (Nd.leaf _ _ _ _ _ _ _);obtain ⟨l_R, xR_0, xR_1, xR_2, xR_3, xR_4, yR_0, yR_1, yR_2, yR_3, yR_4⟩ := cf5 HB16.out.res
  go_wp2_with fail
  refine ret_at (v := .agg #[.int .i64 2, .string (M.tb 5 q), .float .f64 0, .slice none 0 0, .complex .f64 0 0]) (fun U => Keeps [w.heap.size] w15_ U ∧ U.heap[w.heap.size]? = some (.cells #[.int .i64 2, .string (M.tb 5 q), .float .f64 0, .slice none 0 0, .complex .f64 0 0] 50 (0, 0))) ⟨zg, (za HB16.out.res)⟩ (fun U hU => ?_) rfl (fun U hU => ?_)
  ·obtain ⟨-, x0, x1, x2, x3, x4, -⟩ := cf5 hU.2;exact qpb
  exact HB16.out.fin HH15.out hU.1 qg qg
 ·go_wp2_with fail
  refine (one_any HB8.out.fix HB8.out.mak qg 4 qg qg).mono ?_;rintro r w17_ ⟨q, hq_q, rfl, hm, hk⟩;have HB18 := zh (HB8.out.call hm hk);clear hk hm HB8
  go_wp2_with fail
  refine (num_ex _ _).mono ?_;rintro r w19_ ⟨nu19, rfl, hk⟩;have HB20 := zh (HB18.out.kp hk);clear hk HB18;have HM19 : Hid (Nd (w.heap.size + 1) 1 w19_ (.agg #[.int .i64 1, .string ⟨#[]⟩, .float .f64 nu19, .slice none 0 0, .complex .f64 0 0])) := zh (Nd.leaf _ _ _ _ _ _ _)
  go_wp2_with fail
  refine calls_at (fun V => Keeps [] w19_ V ∧ V.heap[w19_.heap.size]? = some (.cells #[.int .i64 1, .string ⟨#[]⟩, .float .f64 nu19, .slice none 0 0, .complex .f64 0 0] 50 (0, 0))) ⟨zg, ja⟩ ?_;rintro w21_ ⟨hk, hr⟩;have HB22 := zh (HB20.out.kp hk);have HN22_m19 := zh (HM19.out.step hk jg);have HK21 := zh (Kd.row1 hr HB20.out.b HN22_m19.out);clear hr;clear hk HB20 HM19;clear HN22_m19;refine jrb ?_;rintro r w23_ ⟨rfl, hk⟩;have HB24 := zh (HB22.out.kp hk);have HK24 := zh (HK21.out.step hk jg);clear hk HB22 HK21;have HH23 : Hid (Nd (w.heap.size + 1) _ w23_ (.agg #[.int .i64 6, .string ⟨#[]⟩, .float .f64 0, .slice (some ⟨w19_.heap.size, 0, none⟩) 1 1, .complex .f64 0 0])) := zh (HK24.out.mk zi);clear HK24;obtain ⟨l_R, xR_0, xR_1, xR_2, xR_3, xR_4, yR_0, yR_1, yR_2, yR_3, yR_4⟩ := cf5 HB24.out.res
  go_wp2_with fail
  refine ret_at (v := .agg #[.int .i64 6, .string ⟨#[]⟩, .float .f64 0, .slice (some ⟨w19_.heap.size, 0, none⟩) 1 1, .complex .f64 0 0]) (fun U => Keeps [w.heap.size] w23_ U ∧ U.heap[w.heap.size]? = some (.cells #[.int .i64 6, .string ⟨#[]⟩, .float .f64 0, .slice (some ⟨w19_.heap.size, 0, none⟩) 1 1, .complex .f64 0 0] 50 (0, 0))) ⟨zg, (za HB24.out.res)⟩ (fun U hU => ?_) rfl (fun U hU => ?_)
  ·obtain ⟨-, x0, x1, x2, x3, x4, -⟩ := cf5 hU.2;exact qpb
  exact HB24.out.fin HH23.out hU.1 qg qg
 ·go_wp2_with fail
  refine (one_any HB8.out.fix HB8.out.mak qg 3 qg qg).mono ?_;rintro r w25_ ⟨q, hq_q, rfl, hm, hk⟩;have HB26 := zh (HB8.out.call hm hk);clear hk hm HB8
  go_wp2_with fail
  refine (num_ex _ _).mono ?_;rintro r w27_ ⟨nu27, rfl, hk⟩;have HB28 := zh (HB26.out.kp hk);clear hk HB26;have HM27 : Hid (Nd (w.heap.size + 1) 1 w27_ (.agg #[.int .i64 1, .string ⟨#[]⟩, .float .f64 nu27, .slice none 0 0, .complex .f64 0 0])) := zh (Nd.leaf _ _ _ _ _ _ _)
  go_wp2_with fail
  refine calls_at (fun V => Keeps [] w27_ V ∧ V.heap[w27_.heap.size]? = some (.cells #[.int .i64 1, .string ⟨#[]⟩, .float .f64 nu27, .slice none 0 0, .complex .f64 0 0] 50 (0, 0))) ⟨zg, ja⟩ ?_;rintro w29_ ⟨hk, hr⟩;have HB30 := zh (HB28.out.kp hk);have HN30_m27 := zh (HM27.out.step hk jg);have HK29 := zh (Kd.row1 hr HB28.out.b HN30_m27.out);clear hr;clear hk HB28 HM27;clear HN30_m27;refine jrb ?_;rintro r w31_ ⟨rfl, hk⟩;have HB32 := zh (HB30.out.kp hk);have HK32 := zh (HK29.out.step hk jg);clear hk HB30 HK29;have HH31 : Hid (Nd (w.heap.size + 1) _ w31_ (.agg #[.int .i64 6, .string ⟨#[]⟩, .float .f64 0, .slice (some ⟨w27_.heap.size, 0, none⟩) 1 1, .complex .f64 0 0])) := zh (HK32.out.mk zi);clear HK32;obtain ⟨l_R, xR_0, xR_1, xR_2, xR_3, xR_4, yR_0, yR_1, yR_2, yR_3, yR_4⟩ := cf5 HB32.out.res
  go_wp2_with fail
  refine ret_at (v := .agg #[.int .i64 6, .string ⟨#[]⟩, .float .f64 0, .slice (some ⟨w27_.heap.size, 0, none⟩) 1 1, .complex .f64 0 0]) (fun U => Keeps [w.heap.size] w31_ U ∧ U.heap[w.heap.size]? = some (.cells #[.int .i64 6, .string ⟨#[]⟩, .float .f64 0, .slice (some ⟨w27_.heap.size, 0, none⟩) 1 1, .complex .f64 0 0] 50 (0, 0))) ⟨zg, (za HB32.out.res)⟩ (fun U hU => ?_) rfl (fun U hU => ?_)
  ·obtain ⟨-, x0, x1, x2, x3, x4, -⟩ := cf5 hU.2;exact qpb
  exact HB32.out.fin HH31.out hU.1 qg qg
 ·go_wp2_with fail
  refine (scalar_any HB8.out.here qg).mono ?_;rintro r w33_ ⟨s33, rfl, hm, hk⟩;have HB34 := zh (HB8.out.call hm hk);clear hk hm HB8
  go_wp2_with fail
  refine jrb ?_;rintro r w35_ ⟨rfl, hk⟩;have HB36 := zh (HB34.out.kp hk);clear hk HB34;have HH35 : Hid (Nd (w.heap.size + 1) 1 w35_ (.agg #[.int .i64 4, .string s33, .float .f64 0, .slice none 0 0, .complex .f64 0 0])) := zh (Nd.leaf _ _ _ _ _ _ _);obtain ⟨l_R, xR_0, xR_1, xR_2, xR_3, xR_4, yR_0, yR_1, yR_2, yR_3, yR_4⟩ := cf5 HB36.out.res
  go_wp2_with fail
  refine ret_at (v := .agg #[.int .i64 4, .string s33, .float .f64 0, .slice none 0 0, .complex .f64 0 0]) (fun U => Keeps [w.heap.size] w35_ U ∧ U.heap[w.heap.size]? = some (.cells #[.int .i64 4, .string s33, .float .f64 0, .slice none 0 0, .complex .f64 0 0] 50 (0, 0))) ⟨zg, (za HB36.out.res)⟩ (fun U hU => ?_) rfl (fun U hU => ?_)
  ·obtain ⟨-, x0, x1, x2, x3, x4, -⟩ := cf5 hU.2;exact qpb
  exact HB36.out.fin HH35.out hU.1 qg qg
 go_wp2_with fail
 refine (scalar_any HB8.out.here qg).mono ?_;rintro r w37_ ⟨s37, rfl, hm, hk⟩;have HB38 := zh (HB8.out.call hm hk);clear hk hm HB8
 go_wp2_with fail
 refine jrb ?_;rintro r w39_ ⟨rfl, hk⟩;have HB40 := zh (HB38.out.kp hk);clear hk HB38;have HH39 : Hid (Nd (w.heap.size + 1) 1 w39_ (.agg #[.int .i64 4, .string s37, .float .f64 0, .slice none 0 0, .complex .f64 0 0])) := zh (Nd.leaf _ _ _ _ _ _ _);obtain ⟨l_R, xR_0, xR_1, xR_2, xR_3, xR_4, yR_0, yR_1, yR_2, yR_3, yR_4⟩ := cf5 HB40.out.res
 go_wp2_with fail
 refine ret_at (v := .agg #[.int .i64 4, .string s37, .float .f64 0, .slice none 0 0, .complex .f64 0 0]) (fun U => Keeps [w.heap.size] w39_ U ∧ U.heap[w.heap.size]? = some (.cells #[.int .i64 4, .string s37, .float .f64 0, .slice none 0 0, .complex .f64 0 0] 50 (0, 0))) ⟨zg, (za HB40.out.res)⟩ (fun U hU => ?_) rfl (fun U hU => ?_)
 ·obtain ⟨-, x0, x1, x2, x3, x4, -⟩ := cf5 hU.2;exact qpb
 exact HB40.out.fin HH39.out hU.1 qg qg
set_option maxHeartbeats 8000000 in
theorem regex_any {M : MKey} {I : Nat} {fn : Bool} {w : World} (h : Bn M I fn w w) (hI : I + 7 ≤ 1000000000000) : Calls Tryz.prog 56 #[.pointer (some ⟨M.k, 0, none⟩)] w fun r w' => NodeP M 2 7 I fn w r w' := by
 have H0 := zh h;clear h
 go_enter Tryz.func56, Tryz.ntmps56
 go_wp2_with fail
 refine zrb ?_;rintro w1 ⟨hk, hr⟩;have HB1 := zh (BnR.start H0.out hk hr);clear hk hr H0
 go_wp2_with fail
 refine (one_int HB1.out.fix HB1.out.mak qg 4 qg qg).mono ?_;rintro r w1_ ⟨z, h0_z, h1_z, rfl, hm, hk⟩;have HB2 := zh (HB1.out.call hm hk);clear hk hm HB1;clear h0_z h1_z
 by_cases hz0 : z = 0
 ·subst hz0
  go_wp2_with fail
  refine (leaf_any HB2.out.here qg).mono ?_;rintro r w3_ ⟨v, rfl, hn, hm, hk⟩;obtain ⟨k3, nm3, nu3, a3, l3, c3, re3, im3, rfl⟩ := hn.shape;have HB4 := zh (HB2.out.call hm hk);have HN3 := zh (HB2.out.node hn);clear hn;clear hk hm HB2;exact jid
 have hz : (z == 0) = false := beq_false_of_ne hz0
 go_wp2_with fail
 refine (one_any HB2.out.fix HB2.out.mak qg 8 qg qg).mono ?_;rintro r w5_ ⟨q, hq_q, rfl, hm, hk⟩;have HB6 := zh (HB2.out.call hm hk);clear hk hm HB2;have ht_q := MKB.tab HB6.out.fix HB6.out.mak (g := 3) (j := q) qg hq_q;have hi_q : (q : Int) < 8 := by omega
 go_wp2_with fail
 clear ht_q hi_q;refine jrb ?_;rintro r w7_ ⟨rfl, hk⟩;have HB8 := zh (HB6.out.kp hk);clear hk HB6;have HH7 : Hid (Nd (w.heap.size + 1) 1 w7_ (.agg #[.int .i64 3, .string (M.tb 3 q), .float .f64 0, .slice none 0 0, .complex .f64 0 0])) := zh (Nd.leaf _ _ _ _ _ _ _);obtain ⟨l_R, xR_0, xR_1, xR_2, xR_3, xR_4, yR_0, yR_1, yR_2, yR_3, yR_4⟩ := cf5 HB8.out.res
 go_wp2_with fail
 refine ret_at (v := .agg #[.int .i64 3, .string (M.tb 3 q), .float .f64 0, .slice none 0 0, .complex .f64 0 0]) (fun U => Keeps [w.heap.size] w7_ U ∧ U.heap[w.heap.size]? = some (.cells #[.int .i64 3, .string (M.tb 3 q), .float .f64 0, .slice none 0 0, .complex .f64 0 0] 50 (0, 0))) ⟨zg, (za HB8.out.res)⟩ (fun U hU => ?_) rfl (fun U hU => ?_)
 ·obtain ⟨-, x0, x1, x2, x3, x4, -⟩ := cf5 hU.2;exact qpb
 exact HB8.out.fin HH7.out hU.1 qg qg
end Go.Proofs.YtkfillfkbhbbjaaGreatDoor
