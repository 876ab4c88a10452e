/- NodAW, PLh, PLi. -/
import Derived.Test.YtkfillfkbhbbjaaGreatDoorBltW
import Derived.Test.YtkfillfkbhbbjaaGreatDoorNodFW
import Derived.Test.YtkfillfkbhbbjaaGreatDoorPrgD
set_option maxRecDepth 100000
set_option maxHeartbeats 4000000
set_option linter.unusedSimpArgs false
set_option linter.unusedVariables false
namespace Go.Proofs.YtkfillfkbhbbjaaGreatDoor
open Go.RowKit
theorem kidsW_false (rec : NRec) : ∀ (l : List Node) (i : Nat) (st : NS), kidsW rec false i l st = kidsF rec l st
 | [], _, _ => rfl
 | k :: l, i, st => by
   rw [kidsW, kidsF];have e : forF false i st k = st := by unfold forF; rw [if_neg jg]
   rw [e];show (rec st k).bind _ = (rec st k).bind _
   congr 1
   funext s
   exact kidsW_false rec l (i + 1) s
theorem lenW_one (g : ProgP) (name : ByteArray) (st : NS) (k : Node) : lenF g name st [k] = if name = nLength ∧ k.kind = 4 then some (ofF g (namedF g st k) k.name).2 else none := rfl
theorem lenW_some {g : ProgP} {name : ByteArray} {st s : NS} {kids : List Node} (h : lenF g name st kids = some s) : ∃ hlt : 0 < kids.length, kids.length = 1 ∧ name = nLength ∧ (kids[0]'hlt).kind = 4 ∧ s = (ofF g (namedF g st (kids[0]'hlt)) (kids[0]'hlt).name).2 := by
 match kids, h with
 | [k], h =>
  rw [lenW_one] at h
  by_cases hk : name = nLength ∧ k.kind = 4
  ·rw [if_pos hk] at h;exact ⟨by simp, rfl, hk.1, hk.2, (Option.some.inj h).symm⟩
  rw [if_neg hk] at h; cases h
 | [], h => cases h
 | _ :: _ :: _, h => cases h
theorem lenW_none {g : ProgP} {name : ByteArray} {st : NS} {kids : List Node} (h : lenF g name st kids = none) (hn : name = nLength) : ∀ h1 : kids.length = 1, ((kids[0]'qg).kind == 4) = false := by
 intro h1
 match kids, h1, h with
 | [k], _, h =>
  rw [lenW_one] at h
  by_cases hk : name = nLength ∧ k.kind = 4
  ·rw [if_pos hk] at h; cases h
  exact beq_false_of_ne fun h4 => hk ⟨hn, h4⟩
theorem loopK_no {k : Int} (h : ¬ loopK k = true) : k ≠ 32 ∧ k ≠ 33 ∧ k ≠ 34 ∧ k ≠ 35 := by
 refine ⟨?_, ?_, ?_, ?_⟩ <;> (rintro rfl; exact h rfl)
theorem loopK_yes {k : Int} (h : loopK k = true) : k = 32 ∨ k = 33 ∨ k = 34 ∨ k = 35 := by
 unfold loopK at h;simp only [Bool.or_eq_true, beq_iff_eq] at h
 omega
theorem node_stepW {K : CKey} (hK : CFix K) {rec : NRec} (hrec : NodeC K rec) : NodeC K (stepW K.g rec) := by
 intro st n st' v hn hv T ua uc w h;obtain ⟨kd, tx, fm, kids, re, im⟩ := n
 cases hv with
 | mk hk =>
  obtain ⟨na, nc, rfl⟩ := hk.shape;rw [stepW_mk] at hn
  split at hn
  ·cases hn
  rename_i hkl;have hkl : kids.length ≤ 1000000 := by omega
  split at hn
  ·rename_i h19;refine node_toc hK h kd tx fm na nc re im kids h19 fun w h => ?_
   split at hn
   ·rename_i h0;obtain rfl : faultF st re im 28 = st' := by simpa using hn
    exact call_0 hK h kd tx fm na nc re im kids (fn := flook K.g tx) rfl h0
   rename_i h0;obtain ⟨i, hi⟩ : ∃ i, flook K.g tx = i + 1 := ⟨flook K.g tx - 1, by omega⟩;have hlt : i < K.g.funcs.length := flook_lt hi;have hp : paramsOf K.g (flook K.g tx) = K.g.funcs[i].params := by unfold paramsOf; rw [hi, Nat.add_sub_cancel, List.getElem?_eq_getElem hlt]
   rw [hp] at hn
   split at hn
   ·rename_i hl;obtain rfl : faultF st re im 31 = st' := by simpa using hn
    exact call_1 hK h kd tx fm na nc re im kids (fn := flook K.g tx) rfl hi hlt hl
   rename_i hl;exact call_2 hK h kd tx fm na nc re im kids (fn := flook K.g tx) rfl hi hlt qg hkl hk hrec hn
  rename_i h19
  split at hn
  ·rename_i h20;refine node_tob hK h kd tx fm na nc re im kids h20 fun w h => ?_
   unfold builtF at hn;obtain ⟨c1, c2, hcn⟩ : ∃ a b, countsF tx = (a, b) := ⟨_, _, rfl⟩;rw [hcn] at hn
   split at hn
   ·rename_i hl;obtain rfl : faultF st re im 31 = st' := by simpa using hn
    by_cases hlo : kids.length < c1
    ·exact built_l hK h kd tx fm na nc re im kids hcn hlo
    exact built_m hK h kd tx fm na nc re im kids hcn hlo (hl.resolve_left hlo)
   rename_i hl;simp only [not_or] at hl
   split at hn
   ·rename_i s' hlen;obtain rfl : s' = st' := by simpa using hn
    obtain ⟨hlt, h1, h2, h3, rfl⟩ := lenW_some hlen;exact built_len hK h kd tx fm na nc re im kids hcn hl.1 hl.2 hk h2 hlt h1 h3
   rename_i hlen;exact built_w hK h kd tx fm na nc re im kids hcn hl.1 hl.2 hkl hk hrec (fun e => lenW_none hlen e) hn
  rename_i h20;simp only [Option.bind_eq_some_iff] at hn;obtain ⟨s1, hpre, hcf⟩ := hn
  split at hcf
  ·rename_i hlp
   split at hcf
   ·cases hcf
   rename_i hb1;simp only [not_or, Int.not_lt] at hb1;simp only [Option.bind_eq_some_iff] at hcf;obtain ⟨s2, hcf, hend⟩ := hcf
   split at hend
   ·cases hend
   rename_i hb2;simp only [not_or, Int.not_lt] at hb2;obtain rfl : { s2 with loops := s2.loops - 1 } = st' := by simpa using hend
   by_cases h35 : kd = 35
   ·have e : (kd == 34) = false := by simp [h35]
    rw [e] at hcf;exact node_f hK h kd tx fm na nc re im kids h35 hkl hk hrec hpre hb1.1 hb1.2 hcf hb2.1 hb2.2
   have h3 : kd = 32 ∨ kd = 33 ∨ kd = 34 := by have := loopK_yes hlp; omega
   rw [preW_mk, if_neg qg, if_neg qg, if_neg qg, if_neg qg, if_neg qg] at hpre;obtain rfl : st = s1 := by simpa using hpre
   by_cases h34 : kd = 34
   ·have e : (kd == 34) = true := by simp [h34]
    rw [e] at hcf;exact node_wt hK h kd tx fm na nc re im kids h34 hb1.1 hb1.2 hkl hk hrec hcf hb2.1 hb2.2
   have e : (kd == 34) = false := by simp [h34]
   rw [e] at hcf;exact node_wf hK h kd tx fm na nc re im kids qg hb1.1 hb1.2 hkl hk hrec hcf hb2.1 hb2.2
  rename_i hlp;obtain ⟨h32, h33, h34, h35⟩ := loopK_no hlp;rw [kidsW_false] at hcf
  by_cases h4 : kd = 4
  ·exact node_vw hK h kd tx fm na nc re im kids h4 h19 h20 qg qg h32 h33 h34 h35 hkl hk hrec hpre hcf
  by_cases h5 : kd = 5
  ·exact node_x5 hK h kd tx fm na nc re im kids h4 h5 h19 h20 h32 h33 h34 h35 hkl hk hrec hpre hcf
  by_cases h11 : kd = 11
  ·exact node_x11 hK h kd tx fm na nc re im kids h4 h11 h19 h20 h32 h33 h34 h35 hkl hk hrec hpre hcf
  by_cases h41 : kd = 41
  ·exact node_x41 hK h kd tx fm na nc re im kids h4 h41 h19 h20 h32 h33 h34 h35 hkl hk hrec hpre hcf
  exact node_ow hK h kd tx fm na nc re im kids h4 h5 h19 h20 h11 h41 h32 h33 h34 h35 hkl hk hrec hpre hcf
theorem node_anyW {K : CKey} (hK : CFix K) : ∀ fu, NodeC K (nodeW K.g fu)
 | 0 => fun _ _ _ _ h => by cases h
 | fu + 1 => node_stepW hK (node_anyW hK fu)
/-! ### texts in order -/
theorem ltB_asymm : ∀ {a b}, ltB a b = true → ltB b a = false
 | [], [], h => by cases h
 | [], _ :: _, _ => rfl
 | _ :: _, [], h => by cases h
 | x :: a, y :: b, h => by
   rw [ltB] at h ⊢
   by_cases h1 : x < y
   ·rw [if_neg (by simp only [UInt8.not_lt]; exact UInt8.le_of_lt h1), if_pos h1]
   rw [if_neg h1] at h
   by_cases h2 : y < x
   ·rw [if_pos h2] at h; cases h
   rw [if_neg h2] at h;rw [if_neg h2, if_neg h1]; exact ltB_asymm h
theorem u8_tri {x y : UInt8} (h1 : ¬ x < y) (h2 : ¬ y < x) : x = y := by
 have h1 : y.toNat ≤ x.toNat := by rw [UInt8.lt_iff_toNat_lt] at h1; omega
 have h2 : x.toNat ≤ y.toNat := by rw [UInt8.lt_iff_toNat_lt] at h2; omega
 exact UInt8.toNat_inj.1 (Nat.le_antisymm h2 h1)
theorem ltB_trans : ∀ {a b c}, ltB a b = true → ltB b c = true → ltB a c = true
 | _, [], _, h, _ => by cases h' : (‹List UInt8› : List UInt8) <;> simp_all [ltB]
 | _, _ :: _, [], _, h => by cases h
 | [], _ :: _, _ :: _, _, _ => rfl
 | x :: a, y :: b, z :: c, h, k => by
   rw [ltB] at h k ⊢
   by_cases h1 : x < y
   ·by_cases k1 : y < z
    ·rw [if_pos (UInt8.lt_trans h1 k1)]
    rw [if_neg k1] at k
    by_cases k2 : z < y
    ·rw [if_pos k2] at k; cases k
    have := u8_tri k1 k2; subst this; rw [if_pos h1]
   rw [if_neg h1] at h
   by_cases h2 : y < x
   ·rw [if_pos h2] at h; cases h
   rw [if_neg h2] at h;have := u8_tri h1 h2; subst this
   by_cases k1 : x < z
   ·rw [if_pos k1]
   rw [if_neg k1] at k ⊢
   by_cases k2 : z < x
   ·rw [if_pos k2] at k; cases k
   rw [if_neg k2] at k ⊢; exact ltB_trans h k
theorem ltB_tri : ∀ {a b}, ltB a b = false → ltB b a = false → a = b
 | [], [], _, _ => rfl
 | [], _ :: _, h, _ => by cases h
 | _ :: _, [], _, h => by cases h
 | x :: a, y :: b, h, k => by
   rw [ltB] at h k
   by_cases h1 : x < y
   ·rw [if_pos h1] at h; cases h
   rw [if_neg h1] at h
   by_cases h2 : y < x
   ·rw [if_pos h2] at k; cases k
   rw [if_neg h2] at h k;rw [if_neg h1] at k;rw [u8_tri h1 h2, ltB_tri h k]
def ltT (a b : ByteArray) : Bool := ltB a.data.toList b.data.toList
theorem ltT_tri {a b : ByteArray} (h : ltT a b = false) (k : ltT b a = false) : a = b := by
 have := ltB_tri h k
 cases a with | mk x => cases b with | mk y => exact congrArg ByteArray.mk (Array.toList_inj.1 this)
theorem insB_cons (s x : ByteArray) (l : List ByteArray) : insB s (x :: l) = if ltT x s = true then x :: insB s l else s :: x :: l := rfl
theorem insB_comm (a b : ByteArray) : ∀ l, insB a (insB b l) = insB b (insB a l)
 | [] => by
   show insB a [b] = insB b [a];rw [insB_cons, insB_cons]
   cases h : ltT b a with
   | true => have := ltB_asymm h; rw [if_pos rfl, if_neg (by rw [show ltT a b = false from this]; simp)]; rfl
   | false =>
    cases k : ltT a b with
    | true => rfl
    | false => rw [ltT_tri h k]
 | x :: l => by
   rw [insB_cons, insB_cons];have ih := insB_comm a b l
   cases hb : ltT x b with
   | true =>
    rw [if_pos rfl, insB_cons]
    cases ha : ltT x a with
    | true => rw [if_pos rfl, if_pos rfl, insB_cons, hb, if_pos rfl, ih]
    | false =>
     rw [if_neg jg, if_neg jg, insB_cons]
     -- a ≤ x < b
     have hab : ltT a b = true := by
      cases hax : ltT a x with
      | true => exact ltB_trans hax hb
      | false => have := ltT_tri ha hax; rw [← this]; exact hb
     rw [hab, if_pos rfl, insB_cons, hb, if_pos rfl]
   | false =>
    rw [if_neg jg, insB_cons]
    cases ha : ltT x a with
    | true =>
     rw [if_pos rfl]
     have hba : ltT b a = true := by
      cases hbx : ltT b x with
      | true => exact ltB_trans hbx ha
      | false => have := ltT_tri hb hbx; rw [← this]; exact ha
     rw [hba, if_pos rfl, insB_cons, ha, if_pos rfl, insB_cons, hb, if_neg jg]
    | false =>
     have e1 : (if (false : Bool) = true then x :: insB a l else a :: x :: l) = a :: x :: l := rfl;rw [e1, insB_cons, insB_cons, insB_cons]
     cases h : ltT b a with
     | true =>
      have := ltB_asymm h;rw [show ltT a b = false from this, ha]; rfl
     | false =>
      cases k : ltT a b with
      | true => rw [hb]; rfl
      | false => have := ltT_tri h k; subst this; rfl
theorem sortW_perm {l m : List ByteArray} (h : l.Perm m) : sortB l = sortB m := by
 induction h with
 | nil => rfl
 | cons x _ ih => simp only [sortB, ih]
 | swap x y l => simp only [sortB]; exact insB_comm y x _
 | trans _ _ h1 h2 => exact h1.trans h2
/-! ### what events do, whatever their order -/
def usesE : Ev → List Use
 | .use t arr re im => [⟨re, im, t, arr, noT, false, false⟩]
 | .kid p re im => [⟨re, im, noT, false, p, true, false⟩]
 | .bad re im => [⟨re, im, noT, false, noT, false, true⟩]
 | _ => []
def seesE : Ev → List Thing
 | .see t _ _ => if t.1 = 0 then [t] else []
 | .use t _ _ _ => if t.1 = 0 then [t] else []
 | .link a _ _ _ => if a.1 = 0 then [a] else []
 | _ => []
def linksE : Ev → List (Thing × Thing)
 | .link a p _ _ => [(a, p)]
 | _ => []
inductive Conn (R : List (Thing × Thing)) : Thing → Thing → Prop
 | refl (x : Thing) : Conn R x x
 | symm {x y : Thing} (h : Conn R x y) : Conn R y x
 | trans {x y z : Thing} (h : Conn R x y) (k : Conn R y z) : Conn R x z
 | of {a b : Thing} (h : (a, b) ∈ R) : Conn R a b
theorem Conn.mono {R S : List (Thing × Thing)} (h : ∀ x ∈ R, x ∈ S) {x y : Thing} (c : Conn R x y) : Conn S x y := by
 induction c with
 | refl => exact .refl _
 | symm _ ih => exact ih.symm
 | trans _ _ i j => exact i.trans j
 | of hm => exact .of (h _ hm)
def Uni (m : Links) (R : List (Thing × Thing)) : Prop := WfS m ∧ ∀ x y, rt m x = rt m y ↔ Conn R x y
theorem rt_link (m : Links) (a p x : Thing) : rt (linkS m a p) x = if rt m x = rt m a then rt m p else rt m x := by
 unfold linkS
 by_cases h : rt m a = rt m p
 ·rw [if_pos h]; split
  ·rename_i k; rw [k, h]
  rfl
 rw [if_neg h, rt_append]
theorem Uni.nil : Uni [] [] := ⟨.nil, fun x y => ⟨fun h => by have h : x = y := h; subst h; exact .refl _, fun h => by
 induction h with
 | refl => rfl
 | symm _ ih => exact ih.symm
 | trans _ _ i j => exact i.trans j
 | of h => cases h⟩⟩
theorem Uni.link {m : Links} {R : List (Thing × Thing)} (h : Uni m R) (a p : Thing) : Uni (linkS m a p) (R ++ [(a, p)]) := by
 obtain ⟨h1, h2⟩ := h;refine ⟨h1.link a p, fun x y => ⟨fun e => ?_, fun c => ?_⟩⟩
 ·have up : ∀ {x y}, Conn R x y → Conn (R ++ [(a, p)]) x y := fun c => c.mono fun z hz => List.mem_append_left _ hz
  have key : ∀ x, ∃ z, rt (linkS m a p) x = rt m z ∧ Conn (R ++ [(a, p)]) x z := fun x => by
   rw [rt_link]
   by_cases hx : rt m x = rt m a
   ·rw [if_pos hx]; exact ⟨p, rfl, (up ((h2 _ _).1 hx)).trans (.of jg)⟩
   rw [if_neg hx]; exact ⟨x, rfl, .refl _⟩
  obtain ⟨zx, e1, c1⟩ := key x;obtain ⟨zy, e2, c2⟩ := key y;rw [e1, e2] at e;exact c1.trans ((up ((h2 _ _).1 e)).trans c2.symm)
 induction c with
 | refl => rfl
 | symm _ ih => exact ih.symm
 | trans _ _ i j => exact i.trans j
 | of hm =>
  rcases List.mem_append.1 hm with hm | hm
  ·have := (h2 _ _).2 (.of hm);rw [rt_link, rt_link, this]
  simp only [List.mem_singleton, Prod.mk.injEq] at hm;obtain ⟨rfl, rfl⟩ := hm;rw [rt_link, rt_link, if_pos rfl]
  split <;> rfl
structure After (st0 st : NS) (L : List Ev) : Prop where
 uses : st.uses = st0.uses ++ L.flatMap usesE
 uni : ∀ R, Uni st0.same R → Uni st.same (R ++ L.flatMap linksE)
 seen : ∀ t, t ∈ st.seen ↔ t ∈ st0.seen ∨ t ∈ L.flatMap seesE
 nodup : st0.seen.Nodup → st.seen.Nodup
theorem tmem_iff' {t : Thing} : ∀ {l : List Thing}, tmem t l = true ↔ t ∈ l
 | [] => by simp [tmem]
 | x :: l => by
   rw [tmem, List.mem_cons, ← tmem_iff']
   by_cases h : t = x
   ·rw [if_pos (teq_iff'.2 h)]; simp [h]
   rw [if_neg (fun k => h (teq_iff'.1 k))]; simp [h]
theorem seen_put (st : NS) (t x : Thing) : x ∈ (seePut st t).seen ↔ x ∈ st.seen ∨ x = t := by
 unfold seePut; simp only
 by_cases h : tmem t st.seen = true
 ·rw [if_pos h]; have := tmem_iff'.1 h;exact ⟨.inl, fun k => k.elim id fun e => e ▸ this⟩
 rw [if_neg h]; simp
theorem nodup_put {st : NS} (t : Thing) (h : st.seen.Nodup) : (seePut st t).seen.Nodup := by
 unfold seePut; simp only
 by_cases hm : tmem t st.seen = true
 ·rw [if_pos hm]; exact h
 rw [if_neg hm];rw [List.nodup_append];refine ⟨h, by simp, fun a ha b hb => ?_⟩;simp only [List.mem_singleton] at hb;subst hb;rintro rfl;exact hm (tmem_iff'.2 ha)
theorem see_after (st : NS) (t : Thing) : (nSee st t).uses = st.uses ∧ (nSee st t).same = st.same ∧ (∀ x, x ∈ (nSee st t).seen ↔ x ∈ st.seen ∨ x ∈ (if t.1 = 0 then [t] else [] : List Thing)) ∧ (st.seen.Nodup → (nSee st t).seen.Nodup) := by
 unfold nSee
 split
 ·exact ⟨rfl, rfl, fun x => by rw [seen_put]; simp, nodup_put t⟩
 exact ⟨rfl, rfl, fun x => by simp, id⟩
theorem useF_ok {st st' : NS} {u : Use} (h : useF st u = some st') : st'.uses = st.uses ++ [u] ∧ st'.same = st.same ∧ st'.seen = st.seen := by
 unfold useF at h; split at h
 ·cases h; exact ⟨rfl, rfl, rfl⟩
 cases h
theorem nEv_after {st st' : NS} {x : Ev} (hs : WfS st.same) (h : nEv st x = some st') : After st st' [x] := by
 have e1 : ([x].flatMap usesE) = usesE x := by simp
 have e2 : ([x].flatMap linksE) = linksE x := by simp
 have e3 : ([x].flatMap seesE) = seesE x := by simp
 cases x with
 | see t re im =>
  cases h
  obtain ⟨a, b, c, d⟩ := see_after st t;exact ⟨by rw [a, e1]; simp [usesE], fun R hR => by rw [b, e2]; simpa [linksE] using hR, fun x => by rw [c, e3]; rfl, d⟩
 | use t arr re im =>
  obtain ⟨a, b, c, d⟩ := see_after st t;obtain ⟨u1, u2, u3⟩ := useF_ok h;exact ⟨by rw [u1, a, e1]; rfl, fun R hR => by rw [u2, b, e2]; simpa [linksE] using hR, fun x => by rw [u3, c, e3]; rfl, fun hn => by rw [u3]; exact d hn⟩
 | kid p re im =>
  obtain ⟨u1, u2, u3⟩ := useF_ok h;exact jxc
 | bad re im =>
  obtain ⟨u1, u2, u3⟩ := useF_ok h;exact jxc
 | link a p re im =>
  rw [link_eq hs] at h
  cases h
  obtain ⟨a1, -, c, d⟩ := see_after st a;exact ⟨by show (nSee st a).uses = _; rw [a1, e1]; simp [usesE], fun R hR => by rw [e2]; exact hR.link a p, fun x => by show x ∈ (nSee st a).seen ↔ _; rw [c, e3]; rfl, d⟩
 | reg t =>
  cases h
  exact ⟨by rw [e1]; simp [usesE], fun R hR => by rw [e2]; simpa [linksE] using hR, fun x => by rw [e3]; simp [seesE], id⟩
theorem nEv_wf {st st' : NS} {x : Ev} (hs : WfS st.same) (h : nEv st x = some st') : WfS st'.same := by
 cases x with
 | see t re im => cases h; rw [nSee_same]; exact hs
 | use t arr re im => rw [(useF_ok h).2.1, nSee_same]; exact hs
 | kid p re im => rw [(useF_ok h).2.1]; exact hs
 | bad re im => rw [(useF_ok h).2.1]; exact hs
 | link a p re im => rw [link_eq hs] at h; cases h; exact hs.link a p
 | reg t => cases h; exact hs
theorem evs_after : ∀ {L : List Ev} {st st' : NS}, WfS st.same → evs L st = some st' → After st st' L ∧ WfS st'.same
 | [], st, st', hs, h => by
   cases h
   exact ⟨⟨by simp, fun R hR => by simpa using hR, fun t => by simp, id⟩, hs⟩
 | x :: L, st, st', hs, h => by
   rw [evs_cons, Option.bind_eq_some_iff] at h;obtain ⟨s1, h1, h2⟩ := h;have a1 := nEv_after hs h1;obtain ⟨a2, w2⟩ := evs_after (nEv_wf hs h1) h2;refine ⟨⟨?_, fun R hR => ?_, fun t => ?_, fun hn => a2.nodup (a1.nodup hn)⟩, w2⟩
   ·rw [a2.uses, a1.uses]; simp
   ·have := a2.uni _ (a1.uni R hR)
    simpa using this
   rw [a2.seen, a1.seen]; simp [or_assoc]
theorem flook_rules (r r' : List RuleP) (f : List FuncP) (s : ByteArray) : flook ⟨r, f⟩ s = flook ⟨r', f⟩ s := rfl
theorem paramsOf_rules (r r' : List RuleP) (f : List FuncP) (n : Nat) : paramsOf ⟨r, f⟩ n = paramsOf ⟨r', f⟩ n := rfl
theorem fltB_rules (r r' : List RuleP) (f : List FuncP) (fn : Nat) (kd lo k : Int) (nm : ByteArray) (kids : List Node) (re im : Nat) : fltB ⟨r, f⟩ fn kd lo k nm kids re im = fltB ⟨r', f⟩ fn kd lo k nm kids re im := rfl
mutual
theorem fltN_rules (r r' : List RuleP) (f : List FuncP) : ∀ (n : Node) (fn : Nat) (kd lo : Int), fltN ⟨r, f⟩ fn kd lo n = fltN ⟨r', f⟩ fn kd lo n
 | .mk k nm x kids re im, fn, kd, lo => by rw [fltN, fltN, fltB_rules r r', fltK_rules r r' f kids]
theorem fltK_rules (r r' : List RuleP) (f : List FuncP) : ∀ (l : List Node) (fn : Nat) (kd lo : Int) (lp : Bool) (i : Nat), fltK ⟨r, f⟩ fn kd lo lp i l = fltK ⟨r', f⟩ fn kd lo lp i l
 | [], fn, kd, lo, lp, i => by rw [fltK, fltK]
 | k :: l, fn, kd, lo, lp, i => by rw [fltK, fltK, fltN_rules r r' f k, fltK_rules r r' f l]
end
theorem lenE_rules (r r' : List RuleP) (f : List FuncP) (fn : Nat) (l : List Node) : lenE ⟨r, f⟩ fn l = lenE ⟨r', f⟩ fn l := rfl
theorem preE_rules (r r' : List RuleP) (f : List FuncP) (fn : Nat) (k : Int) (nm : ByteArray) (re im : Nat) : preE ⟨r, f⟩ fn k nm re im = preE ⟨r', f⟩ fn k nm re im := rfl
theorem resT_rules (r r' : List RuleP) (f : List FuncP) (fn : Nat) (nm : ByteArray) : resT ⟨r, f⟩ fn nm = resT ⟨r', f⟩ fn nm := rfl
mutual
theorem evN_rules (r r' : List RuleP) (f : List FuncP) (fn : Nat) : ∀ (n : Node), evN ⟨r, f⟩ fn n = evN ⟨r', f⟩ fn n
 | .mk k nm x kids re im => by rw [evN, evN, evC_rules r r' f fn _ kids, evB_rules r r' f fn _ kids, evK_rules r r' f fn kids, lenE_rules r r', preE_rules r r', flook_rules r r', paramsOf_rules r r']
theorem evK_rules (r r' : List RuleP) (f : List FuncP) (fn : Nat) : ∀ (l : List Node), evK ⟨r, f⟩ fn l = evK ⟨r', f⟩ fn l
 | [] => by rw [evK, evK]
 | k :: l => by rw [evK, evK, evN_rules r r' f fn k, evK_rules r r' f fn l]
theorem evC_rules (r r' : List RuleP) (f : List FuncP) (fn q : Nat) : ∀ (l : List Node) (ps : List ByteArray), evC ⟨r, f⟩ fn q ps l = evC ⟨r', f⟩ fn q ps l
 | [], ps => by rw [evC, evC]
 | k :: l, [] => by rw [evC, evC]
 | k :: l, p :: ps => by rw [evC, evC, evN_rules r r' f fn k, evC_rules r r' f fn q l, resT_rules r r']
theorem evB_rules (r r' : List RuleP) (f : List FuncP) (fn : Nat) (arr : Int) : ∀ (l : List Node) (i : Nat), evB ⟨r, f⟩ fn arr i l = evB ⟨r', f⟩ fn arr i l
 | [], i => by rw [evB, evB]
 | k :: l, i => by rw [evB, evB, evN_rules r r' f fn k, evB_rules r r' f fn arr l, resT_rules r r']
end
theorem headPs_rules (r r' : List RuleP) (f : List FuncP) (i : Nat) (x : FuncP) : ∀ (l pre : List ByteArray) (st : NS), headPs ⟨r, f⟩ i x pre l st = headPs ⟨r', f⟩ i x pre l st
 | [], pre, st => rfl
 | s :: l, pre, st => by rw [headPs, headPs, headPs_rules r r' f i x l]; rfl
theorem headsA_rules (r r' : List RuleP) (f : List FuncP) : ∀ (l : List FuncP) (i : Nat) (st : NS), headsA ⟨r, f⟩ i l st = headsA ⟨r', f⟩ i l st
 | [], i, st => rfl
 | x :: l, i, st => by rw [headsA, headsA, headsA_rules r r' f l, headPs_rules r r' f]; rfl
theorem fltFs_rules (r r' : List RuleP) (f : List FuncP) : ∀ (l : List FuncP) (i : Nat), fltFs ⟨r, f⟩ i l = fltFs ⟨r', f⟩ i l
 | [], i => rfl
 | x :: l, i => by rw [fltFs, fltFs, fltFs_rules r r' f l, fltN_rules r r' f]
theorem evFs_rules (r r' : List RuleP) (f : List FuncP) : ∀ (l : List FuncP) (i : Nat), evFs ⟨r, f⟩ i l = evFs ⟨r', f⟩ i l
 | [], i => rfl
 | x :: l, i => by rw [evFs, evFs, evFs_rules r r' f l, evN_rules r r' f]
theorem fltR_none (r r' : List RuleP) (f : List FuncP) : ∀ l : List RuleP, fltR ⟨r, f⟩ l = none ↔ ∀ x ∈ l, fltK ⟨r', f⟩ 0 x.kind 0 false 0 x.pats = none ∧ fltN ⟨r', f⟩ 0 x.kind 0 x.body = none
 | [] => by simp [fltR]
 | x :: l => by
   rw [fltR, fltK_rules r r' f, fltN_rules r r' f]
   constructor
   ·intro h;obtain ⟨h1, h2⟩ := Option.or_eq_none' h;have h3 := (fltR_none r r' f l).1 h2;intro y hy
    rcases List.mem_cons.1 hy with rfl | hy
    ·exact Option.or_eq_none' h1
    exact h3 y hy
   intro h;have h1 := h x (List.mem_cons_self ..);rw [(fltR_none r r' f l).2 fun y hy => h y (List.mem_cons_of_mem _ hy), h1.1, h1.2]; rfl
theorem evR_flat (r r' : List RuleP) (f : List FuncP) : ∀ l : List RuleP, evR ⟨r, f⟩ l = l.flatMap fun x => evK ⟨r', f⟩ 0 x.pats ++ evN ⟨r', f⟩ 0 x.body
 | [] => rfl
 | x :: l => by rw [evR, evR_flat r r' f l, evK_rules r r' f, evN_rules r r' f, List.flatMap_cons]
/-! ### no fault, whatever the order -/
structure NoBad (st : NS) : Prop where
 no : ∀ u ∈ st.uses, badU st u = false
theorem firstBad_none (st : NS) : ∀ l : List Use, firstBad st l = none ↔ ∀ u ∈ l, badU st u = false
 | [] => by simp [firstBad]
 | u :: l => by
   rw [firstBad]
   cases h : badU st u with
   | true => simp [h]
   | false => rw [if_neg jg, firstBad_none st l]; simp [h]
structure Alike (a b : NS) : Prop where
 wa : WfS a.same
 wb : WfS b.same
 uni : ∀ x y, rt a.same x = rt a.same y ↔ rt b.same x = rt b.same y
 uses : ∀ u, u ∈ a.uses ↔ u ∈ b.uses
 seen : ∀ t, t ∈ a.seen ↔ t ∈ b.seen
theorem Alike.symm {a b : NS} (h : Alike a b) : Alike b a := ⟨h.wb, h.wa, fun x y => (h.uni x y).symm, fun u => (h.uses u).symm, fun t => (h.seen t).symm⟩
theorem specIn_iff (m : Links) (r : Thing) : ∀ l : List Thing, specIn m r l = true ↔ ∃ t ∈ l, specT t = true ∧ rt m t = r
 | [] => by simp [specIn]
 | t :: l => by rw [specIn, Bool.or_eq_true, specIn_iff m r l]; simp
theorem Alike.spec {a b : NS} (h : Alike a b) (t : Thing) : specIn a.same (rt a.same t) a.seen = specIn b.same (rt b.same t) b.seen := by
 have : specIn a.same (rt a.same t) a.seen = true ↔ specIn b.same (rt b.same t) b.seen = true := by
  rw [specIn_iff, specIn_iff]
  constructor
  ·rintro ⟨x, h1, h2, h3⟩; exact ⟨x, (h.seen x).1 h1, h2, (h.uni _ _).1 h3⟩
  rintro ⟨x, h1, h2, h3⟩; exact ⟨x, (h.seen x).2 h1, h2, (h.uni _ _).2 h3⟩
 cases h1 : specIn a.same (rt a.same t) a.seen <;> cases h2 : specIn b.same (rt b.same t) b.seen <;> simp_all
theorem firstK_cases (m : Links) (r : Thing) : ∀ l : List Use, (firstK m r l = 0 ∧ ∀ u ∈ l, useOf m r u = false) ∨ ∃ u ∈ l, useOf m r u = true ∧ firstK m r l = if u.array then 2 else 1
 | [] => .inl ⟨rfl, by simp⟩
 | u :: l => by
   rw [firstK]
   cases h : useOf m r u with
   | true => exact .inr ⟨u, List.mem_cons_self .., h, by rw [if_pos rfl]⟩
   | false =>
    rw [if_neg jg]
    rcases firstK_cases m r l with ⟨h1, h2⟩ | ⟨v, h1, h2, h3⟩
    ·exact .inl ⟨h1, fun v hv => (List.mem_cons.1 hv).elim (fun e => e ▸ h) (h2 v)⟩
    exact .inr ⟨v, List.mem_cons_of_mem _ h1, h2, h3⟩
theorem useOf_iff {m : Links} {r : Thing} {u : Use} : useOf m r u = true ↔ u.kid = false ∧ u.bad = false ∧ rt m u.of = r := by
 unfold useOf
 cases u.kid <;> cases u.bad <;> simp
theorem Alike.kof {a b : NS} (h : Alike a b) (hn : NoBad a) (t : Thing) : kofS b (rt b.same t) = kofS a (rt a.same t) := by
 unfold kofS;rw [← h.spec t]
 cases hs : specIn a.same (rt a.same t) a.seen with
 | true => rfl
 | false =>
  simp only [Bool.false_eq_true, if_false]
  rcases firstK_cases b.same (rt b.same t) b.uses with ⟨h1, h2⟩ | ⟨u, h1, h2, h3⟩
  ·rcases firstK_cases a.same (rt a.same t) a.uses with ⟨g1, -⟩ | ⟨v, g1, g2, -⟩
   ·rw [h1, g1]
   exfalso
   have := h2 v ((h.uses v).1 g1);obtain ⟨k1, k2, k3⟩ := useOf_iff.1 g2;rw [useOf_iff.2 ⟨k1, k2, (h.uni _ _).1 k3⟩] at this
   cases this
  obtain ⟨k1, k2, k3⟩ := useOf_iff.1 h2;have k4 : rt a.same u.of = rt a.same t := (h.uni _ _).2 k3;have hu := hn.no u ((h.uses u).2 h1);unfold badU at hu;rw [k1, k2, k4] at hu;simp only [Bool.false_eq_true, if_false] at hu;have hk : kofS a (rt a.same t) = firstK a.same (rt a.same t) a.uses := by unfold kofS; rw [hs]; rfl
  rw [hk] at hu
  rcases firstK_cases a.same (rt a.same t) a.uses with ⟨g1, g2⟩ | ⟨v, -, -, g3⟩
  ·exfalso
   have := g2 u ((h.uses u).2 h1);rw [useOf_iff.2 ⟨k1, k2, k4⟩] at this
   cases this
  rw [h3, g3];rw [g3] at hu
  cases hua : u.array <;> cases hva : v.array <;> rw [hua, hva] at hu <;> first | rfl | cases hu
theorem Alike.noBad {a b : NS} (h : Alike a b) (hn : NoBad a) : NoBad b := ⟨fun u hu => by
 have := hn.no u ((h.uses u).2 hu);unfold badU at this ⊢;rw [h.kof hn, h.kof hn]; exact this⟩
theorem Alike.arr {a b : NS} (h : Alike a b) (hn : NoBad a) (t : Thing) : isArr b t = isArr a t := by unfold isArr; rw [h.kof hn]
theorem Alike.names {a b : NS} (h : Alike a b) (hn : NoBad a) (na : a.seen.Nodup) (nb : b.seen.Nodup) (x : Bool) : sortB ((a.seen.filter fun t => global t && isArr a t == x).map (·.2)) = sortB ((b.seen.filter fun t => global t && isArr b t == x).map (·.2)) := by
 have hp : a.seen.Perm b.seen := (List.perm_ext_iff_of_nodup na nb).2 h.seen;simp only [h.arr hn];exact sortW_perm ((hp.filter _).map _)
theorem evs_of {g : ProgP} (h : WfP g) (h1 : fltP g = none) : ∃ st, evs (evP g) (hd g) = some st := by
 have hsz := h.size;have hd1 := headsA_keep g g.funcs 0 ns0
 change (hd g).uses = [] ∧ (hd g).same = [] ∧ (hd g).seen.length ≤ 0 + psize g.funcs ∧ (hd g).fn = 0 at hd1
 obtain ⟨hu, hm, hn, hf⟩ := hd1;have hs : WfS (hd g).same := by rw [hm]; exact .nil
 obtain ⟨s1, e1, f1, r1⟩ := ran_rules (g := g) (fu := 200000) (l := g.rules) (st := hd g) h.rules qg hf hs qw qg;have u1 := r1.grew.1;rw [hu] at u1;simp only [List.length_nil] at u1;obtain ⟨s2, e2, r2⟩ := ran_funcs (g := g) (fu := 200000) (l := g.funcs) (i := 0) (st := s1) h.funcs qg r1.same qg qg;have r12 := r1.trans r2 (Nat.le_refl _);obtain ⟨s3, e3, rfl⟩ := r12.ev h1;have e3' : evs (evP g) (setC (hd g) s2.fn s2.rule s2.loops) = some s2 := e3;rw [evs_setC, Option.map_eq_some_iff] at e3';obtain ⟨s3, e4, -⟩ := e3';exact ⟨s3, e4⟩
theorem headPs_nodup (g : ProgP) (i : Nat) (f : FuncP) : ∀ (l pre : List ByteArray) (st : NS), st.seen.Nodup → (headPs g i f pre l st).seen.Nodup
 | [], pre, st, h => h
 | s :: l, pre, st, h => by
   rw [headPs];refine headPs_nodup g i f l _ _ (nodup_put _ ?_);have h1 := headP_keep f s pre st
   split
   ·rw [(fault_keep _ _ _ _).2.2.1, h1.2.2.1]; exact h
   rw [h1.2.2.1]; exact h
theorem headsA_nodup (g : ProgP) : ∀ (l : List FuncP) (i : Nat) (st : NS), st.seen.Nodup → (headsA g i l st).seen.Nodup
 | [], i, st, h => h
 | f :: l, i, st, h => by
   rw [headsA];refine headsA_nodup g l _ _ (headPs_nodup g i f _ _ _ ?_)
   split
   ·rw [(fault_keep _ _ _ _).2.2.1]; exact h
   split
   ·rw [(fault_keep _ _ _ _).2.2.1]; exact h
   exact h
theorem alike_of {g g' : ProgP} {st st' : NS} (hh : hd g' = hd g) (hp : (evP g).Perm (evP g')) (h : evs (evP g) (hd g) = some st) (h' : evs (evP g') (hd g') = some st') : Alike st st' ∧ st.seen.Nodup ∧ st'.seen.Nodup := by
 have hd1 := headsA_keep g g.funcs 0 ns0
 change (hd g).uses = [] ∧ (hd g).same = [] ∧ _ at hd1
 have hs : WfS (hd g).same := by rw [hd1.2.1]; exact .nil
 have hnd : (hd g).seen.Nodup := headsA_nodup g g.funcs 0 ns0 (List.nodup_nil);rw [hh] at h';obtain ⟨a1, w1⟩ := evs_after hs h;obtain ⟨a2, w2⟩ := evs_after hs h';have u1 := a1.uni [] (by rw [hd1.2.1]; exact .nil);have u2 := a2.uni [] (by rw [hd1.2.1]; exact .nil);have hl : ∀ x, x ∈ (evP g).flatMap linksE ↔ x ∈ (evP g').flatMap linksE := fun x => (hp.flatMap_right linksE).mem_iff
 refine ⟨⟨w1, w2, fun x y => ?_, fun u => ?_, fun t => ?_⟩, a1.nodup hnd, a2.nodup hnd⟩
 ·rw [u1.2, u2.2];exact ⟨fun c => c.mono fun z hz => by simpa using (hl z).1 (by simpa using hz), fun c => c.mono fun z hz => by simpa using (hl z).2 (by simpa using hz)⟩
 ·rw [a1.uses, a2.uses, hd1.1, List.nil_append, List.nil_append];exact (hp.flatMap_right usesE).mem_iff
 rw [a1.seen, a2.seen, (hp.flatMap_right seesE).mem_iff]
def okF (x : Option Flt) : Prop := ∀ y, x = some y → y.1 ≠ 0
theorem okF.or {a b : Option Flt} (h : okF a) (k : okF b) : okF (a.or b) := by
 cases a with
 | none => exact k
 | some x => exact h
theorem okF.none : okF none := fun _ h => by cases h
theorem okF.some {e : Int} {re im : Nat} (h : e ≠ 0) : okF (some (e, re, im)) := fun _ k => by cases k; exact h
theorem okF.ite {c : Prop} [Decidable c] {a b : Option Flt} (h : okF a) (k : okF b) : okF (if c then a else b) := by split <;> assumption
theorem fltB_ok (g : ProgP) (fn : Nat) (kd lo k : Int) (nm : ByteArray) (kids : List Node) (re im : Nat) : okF (fltB g fn kd lo k nm kids re im) := by
 have s : ∀ {e : Int} (re im : Nat), e ≠ 0 → okF (some (e, re, im)) := fun _ _ h => okF.some h
 have hx : okF (subX nm kids) := by
  unfold subX; split
  ·exact okF.ite (s _ _ zi) okF.none
  exact okF.none
 unfold fltB;refine okF.ite (okF.ite (s _ _ zi) okF.none) (okF.ite (okF.ite (s _ _ zi) (okF.ite (s _ _ zi) okF.none)) (okF.ite (okF.ite (s _ _ zi) hx) (okF.ite (okF.ite (s _ _ zi) okF.none) (okF.ite (okF.ite (s _ _ zi) okF.none) (okF.ite (okF.ite (s _ _ zi) okF.none) okF.none)))))
mutual
theorem fltN_ok (g : ProgP) (fn : Nat) (kd : Int) : ∀ (n : Node) (lo : Int), okF (fltN g fn kd lo n)
 | .mk k nm x kids re im, lo => by rw [fltN]; exact okF.or (fltB_ok _ _ _ _ _ _ _ _ _) (fltK_ok g fn kd kids _ _ _)
theorem fltK_ok (g : ProgP) (fn : Nat) (kd : Int) : ∀ (l : List Node) (lo : Int) (lp : Bool) (i : Nat), okF (fltK g fn kd lo lp i l)
 | [], lo, lp, i => by rw [fltK]; exact okF.none
 | k :: l, lo, lp, i => by
   rw [fltK];refine okF.or (okF.or ?_ (fltN_ok g fn kd k lo)) (fltK_ok g fn kd l _ _ _);unfold forX; exact okF.ite (okF.some zi) okF.none
end
theorem fltP_ok (g : ProgP) : okF (fltP g) := by
 have h1 : ∀ l, okF (fltR g l) := fun l => by
  induction l with
  | nil => exact okF.none
  | cons x l ih => rw [fltR]; exact okF.or (okF.or (fltK_ok _ _ _ _ _ _ _) (fltN_ok _ _ _ _ _)) ih
 have h2 : ∀ l i, okF (fltFs g i l) := fun l => by
  induction l with
  | nil => intro i; exact okF.none
  | cons x l ih => intro i; rw [fltFs]; exact okF.or (fltN_ok _ _ _ _ _) (ih _)
 exact okF.or (h1 _) (h2 _ _)
def turned (g : ProgP) : ProgP := ⟨g.rules.reverse, g.funcs⟩
theorem wf_turned {g : ProgP} (h : WfP g) : WfP (turned g) := by
 have hr : ∀ l m : List RuleP, rsize (l ++ m) = rsize l + rsize m := fun l m => by
  induction l with
  | nil => simp [rsize]
  | cons x l ih => rw [List.cons_append, rsize, rsize, ih]; omega
 have hs : ∀ l : List RuleP, rsize l.reverse = rsize l := fun l => by
  induction l with
  | nil => rfl
  | cons x l ih => rw [List.reverse_cons, hr, ih, rsize, rsize, rsize]; omega
 refine ⟨fun r hr => h.rules r (List.mem_reverse.1 hr), h.funcs, ?_⟩;show 2 * (rsize g.rules.reverse + fsize g.funcs) + psize g.funcs ≤ 400000;rw [hs]; exact h.size
theorem specW_ok {g : ProgP} {st : NS} (h0 : fltS (hd g) = none) (h1 : fltP g = none) (h2 : evs (evP g) (hd g) = some st) : specW g = match firstBad st st.uses with | some x => fT x | none => ⟨infoS st g, 0, 0, 0⟩ := by
 unfold specW; rw [h0]; simp only; rw [h1]; simp only; rw [h2]; rfl
theorem firstBad_e {st : NS} : ∀ {l : List Use} {x : Flt}, firstBad st l = some x → x.1 = 30
 | [], x, h => by cases h
 | u :: l, x, h => by
   rw [firstBad] at h; split at h
   ·cases h; rfl
   exact firstBad_e h
theorem order_spec {g : ProgP} (h : WfP g) : ((specW g).e = 0 ↔ (specW (turned g)).e = 0) ∧ (specW g).info.scalars = (specW (turned g)).info.scalars ∧ (specW g).info.arrays = (specW (turned g)).info.arrays := by
 have hh : hd (turned g) = hd g := headsA_rules _ _ _ _ _ _
 have hf : fltP (turned g) = none ↔ fltP g = none := by
  have key : ∀ r : List RuleP, fltP ⟨r, g.funcs⟩ = none ↔ (∀ x ∈ r, fltK g 0 x.kind 0 false 0 x.pats = none ∧ fltN g 0 x.kind 0 x.body = none) ∧ fltFs g 0 g.funcs = none := fun r => by
   rw [show fltP ⟨r, g.funcs⟩ = (fltR ⟨r, g.funcs⟩ r).or (fltFs ⟨r, g.funcs⟩ 0 g.funcs) from rfl, fltFs_rules r g.rules g.funcs]
   constructor
   ·intro e;obtain ⟨e1, e2⟩ := Option.or_eq_none' e;exact ⟨(fltR_none r g.rules g.funcs r).1 e1, e2⟩
   rintro ⟨e1, e2⟩;rw [(fltR_none r g.rules g.funcs r).2 e1];exact e2
  have k1 := key g.rules.reverse;have k2 := key g.rules
  change fltP (turned g) = none ↔ _ at k1
  change fltP g = none ↔ _ at k2
  rw [k1, k2];simp only [List.mem_reverse]
 have ff : ∀ {x : Flt}, x.1 ≠ 0 → (fT x).e ≠ 0 ∧ (fT x).info.scalars = [] ∧ (fT x).info.arrays = [] := fun h => ⟨h, rfl, rfl⟩
 cases h0 : fltS (hd g) with
 | some x =>
  have e1 : specW g = fT x := by unfold specW; rw [h0]
  have e2 : specW (turned g) = fT x := by unfold specW; rw [hh, h0]
  rw [e1, e2]; exact ⟨Iff.rfl, rfl, rfl⟩
 | none =>
  have fe : ∀ {g : ProgP} {x : Flt}, fltP g = some x → x.1 ≠ 0 := fun {g x} h => fltP_ok g x h
  cases h1 : fltP g with
  | some x =>
   have e1 : specW g = fT x := by unfold specW; rw [h0]; simp only; rw [h1]
   obtain ⟨y, h2⟩ : ∃ y, fltP (turned g) = some y := by
    cases h2 : fltP (turned g) with
    | none => rw [hf.1 h2] at h1; cases h1
    | some y => exact ⟨y, rfl⟩
   have e2 : specW (turned g) = fT y := by unfold specW; rw [hh, h0]; simp only; rw [h2]
   rw [e1, e2];exact ⟨⟨fun k => absurd k (fe h1), fun k => absurd k (fe h2)⟩, rfl, rfl⟩
  | none =>
   have h2 := hf.2 h1;have h0' : fltS (hd (turned g)) = none := by rw [hh, h0]
   obtain ⟨st, hst⟩ := evs_of h h1;obtain ⟨st', hst'⟩ := evs_of (wf_turned h) h2
   have hp : (evP g).Perm (evP (turned g)) := by
    have e1 : evP (turned g) = (g.rules.reverse.flatMap fun x => evK g 0 x.pats ++ evN g 0 x.body) ++ evFs g 0 g.funcs := by
     show evR ⟨g.rules.reverse, g.funcs⟩ g.rules.reverse ++ evFs ⟨g.rules.reverse, g.funcs⟩ 0 g.funcs = _;rw [evR_flat g.rules.reverse g.rules g.funcs, evFs_rules g.rules.reverse g.rules g.funcs]
    have e2 : evP g = (g.rules.flatMap fun x => evK g 0 x.pats ++ evN g 0 x.body) ++ evFs g 0 g.funcs := by
     show evR ⟨g.rules, g.funcs⟩ g.rules ++ _ = _;rw [evR_flat g.rules g.rules g.funcs]
    rw [e1, e2];exact ((List.reverse_perm g.rules).symm.flatMap_right _).append_right _
   obtain ⟨al, n1, n2⟩ := alike_of hh hp hst hst';have e1 := specW_ok h0 h1 hst;have e2 := specW_ok h0' h2 hst';rw [e1, e2]
   cases b1 : firstBad st st.uses with
   | some x =>
    cases b2 : firstBad st' st'.uses with
    | some y => exact ⟨⟨fun k => absurd ((firstBad_e b1).symm.trans k) zi, fun k => absurd ((firstBad_e b2).symm.trans k) zi⟩, rfl, rfl⟩
    | none =>
     have := (firstBad_none st st.uses).2 (al.symm.noBad ⟨(firstBad_none st' st'.uses).1 b2⟩).no;rw [b1] at this; cases this
   | none =>
    have nb : NoBad st := ⟨(firstBad_none st st.uses).1 b1⟩;have b2 := (firstBad_none st' st'.uses).2 (al.noBad nb).no;rw [b2];exact ⟨Iff.rfl, al.names nb n1 n2 false, al.names nb n1 n2 true⟩
end Go.Proofs.YtkfillfkbhbbjaaGreatDoor
