/- Kid, KinL, Kin. -/
import Derived.Test.YtkfillfkbhbbjaaGreatDoorRng
import Derived.Deep.Light
import Derived.Deep.CutBlock
import Derived.Deep.RegionHeld3
set_option maxRecDepth 100000
set_option maxHeartbeats 4000000
set_option linter.unusedSimpArgs false
set_option linter.unusedVariables false
namespace Go.Proofs.YtkfillfkbhbbjaaGreatDoor
open Go.RowKit
theorem lt_cell {w : World} {g o : Nat} {v : Value} (h : w.cell? ⟨g, o, none⟩ = some v) : g < w.heap.size := by
 rcases Nat.lt_or_ge g w.heap.size with h1 | h1
 ·exact h1
 simp [World.cell?, Array.getElem?_eq_none h1] at h
theorem RowR.get {w : World} {S : Nat → Prop} {g : Nat} : ∀ {ns : List Node} {o : Nat}, RowR w S g o ns → ∀ {i : Nat} (hi : i < ns.length), ∃ c0 c1 c2 c3 c4, w.cell? ⟨g, o + i * 5, none⟩ = some c0 ∧ w.cell? ⟨g, o + i * 5 + 1, none⟩ = some c1 ∧ w.cell? ⟨g, o + i * 5 + 2, none⟩ = some c2 ∧ w.cell? ⟨g, o + i * 5 + 3, none⟩ = some c3 ∧ w.cell? ⟨g, o + i * 5 + 4, none⟩ = some c4 ∧ NodeR w S ns[i] (.agg #[c0, c1, c2, c3, c4])
 | [], _, _, i, hi => by simp at hi
 | n :: ns, o, h, i, hi => by
   cases h with
   | cons hn h0 h1 h2 h3 h4 hr =>
    cases i with
    | zero => exact ⟨_, _, _, _, _, by simpa using h0, by simpa using h1, by simpa using h2, by simpa using h3, by simpa using h4, hn⟩
    | succ i =>
     have := RowR.get hr (i := i) (by simpa using hi);rw [show o + 5 + i * 5 = o + (i + 1) * 5 from by omega] at this
     simpa using this
theorem NodeR.kids {w : World} {S : Nat → Prop} {n : Node} {v : Value} (h : NodeR w S n v) : ∃ fm na nc, v = .agg #[.int .i64 n.kind, .string n.name, .float .f64 fm, .slice na n.kids.length nc, .complex .f64 n.re n.im] ∧ KidsR w S n.kids (.slice na n.kids.length nc) := by
 cases h with
 | mk hk =>
  obtain ⟨a, cap, rfl⟩ := hk.shape;exact ⟨_, _, _, rfl, hk⟩
theorem CK.kid {K : CKey} {T : Nat → Prop} {ua : Option Addr} {uc : Nat} {st : NS} {W : World} (h : CK K T ua uc st W) {kids : List Node} {a : Option Addr} {cap : Nat} (hs : KidsR K.w0 (fun _ => True) kids (.slice a kids.length cap)) {i : Nat} (hi : i < kids.length) :
  ∃ g o fm na nc, a = some ⟨g, o, none⟩ ∧ W.cell? ⟨g, o + i * 5, none⟩ = some (.int .i64 kids[i].kind) ∧ W.cell? ⟨g, o + i * 5 + 1, none⟩ = some (.string kids[i].name) ∧ W.cell? ⟨g, o + i * 5 + 2, none⟩ = some (.float .f64 fm) ∧ W.cell? ⟨g, o + i * 5 + 3, none⟩ = some (.slice na kids[i].kids.length nc) ∧ W.cell? ⟨g, o + i * 5 + 4, none⟩ = some (.complex .f64 kids[i].re kids[i].im) ∧
   NodeR K.w0 (fun _ => True) kids[i] (.agg #[.int .i64 kids[i].kind, .string kids[i].name, .float .f64 fm, .slice na kids[i].kids.length nc, .complex .f64 kids[i].re kids[i].im]) := by
 have key : ∃ g o, a = some ⟨g, o, none⟩ ∧ g < K.w0.heap.size ∧ RowR K.w0 (fun _ => True) g o kids := by
  generalize hv : Value.slice a kids.length cap = v at hs
  cases hs with
  | nil => simp at hi
  | some hS hg hr => injection hv with e1; exact ⟨_, _, e1, hg, hr⟩
 obtain ⟨g, o, rfl, hg, hr⟩ := key;obtain ⟨c0, c1, c2, c3, c4, h0, h1, h2, h3, h4, hn⟩ := hr.get hi;obtain ⟨fm, na, nc, hv, hk⟩ := hn.kids;simp only [Value.agg.injEq, Array.mk.injEq, List.cons.injEq, and_true] at hv;obtain ⟨rfl, rfl, rfl, rfl, rfl⟩ := hv
 have hc : ∀ j u, K.w0.cell? ⟨g, j, none⟩ = some u → W.cell? ⟨g, j, none⟩ = some u := fun j u hj => by
  rw [World.cell?_of_block (w := K.w0) (a := ⟨g, j, none⟩) (h.keep.block g hg jg)]; exact hj
 exact ⟨g, o, fm, na, nc, rfl, hc _ _ h0, hc _ _ h1, hc _ _ h2, hc _ _ h3, hc _ _ h4, hn⟩
theorem CK.use {K : CKey} {T : Nat → Prop} {ua : Option Addr} {uc : Nat} {st : NS} {W : World} (h : CK K T ua uc st W) {i : Nat} (hi : i < st.uses.length) :
  ∃ g, ua = some ⟨g, 0, none⟩ ∧ W.cell? ⟨g, i * 8, none⟩ = some (.complex .f64 st.uses[i].re st.uses[i].im) ∧ W.cell? ⟨g, i * 8 + 1, none⟩ = some (.int .i64 st.uses[i].of.1) ∧ W.cell? ⟨g, i * 8 + 2, none⟩ = some (.string st.uses[i].of.2) ∧ W.cell? ⟨g, i * 8 + 3, none⟩ = some (.bool st.uses[i].array) ∧
   W.cell? ⟨g, i * 8 + 4, none⟩ = some (.int .i64 st.uses[i].param.1) ∧ W.cell? ⟨g, i * 8 + 5, none⟩ = some (.string st.uses[i].param.2) ∧ W.cell? ⟨g, i * 8 + 6, none⟩ = some (.bool st.uses[i].kid) ∧ W.cell? ⟨g, i * 8 + 7, none⟩ = some (.bool st.uses[i].bad) := by
 obtain ⟨xs, ho, ht, hx⟩ := h.uses
 rcases ho.2 with ⟨_, hn⟩ | ⟨g, cap, cur, hv, hb, hg, h1, h2, h3, h4⟩
 ·omega
 have hua : ua = some ⟨g, 0, none⟩ := by injection hv
 obtain ⟨c, hc, hj⟩ := hx.get (fun a c h => useL.len h) i hi;have hc' : c = [.complex .f64 st.uses[i].re st.uses[i].im, .int .i64 st.uses[i].of.1, .string st.uses[i].of.2, .bool st.uses[i].array, .int .i64 st.uses[i].param.1, .string st.uses[i].param.2, .bool st.uses[i].kid, .bool st.uses[i].bad] := hc
 have key : ∀ j u, c[j]? = some u → W.cell? ⟨g, i * 8 + j, none⟩ = some u := fun j u h => by
  rw [cell_of_heap hg];have h5 : (cur.toList.take (st.uses.length * 8))[i * 8 + j]? = some u := by rw [h4]; exact hj j u h
  rw [List.getElem?_take] at h5
  split at h5
  ·simpa using h5
  cases h5
 subst hc';exact ⟨g, hua, key 0 _ rfl, key 1 _ rfl, key 2 _ rfl, key 3 _ rfl, key 4 _ rfl, key 5 _ rfl, key 6 _ rfl, key 7 _ rfl⟩
theorem useF_some {st st' : NS} {u : Use} (h : useF st u = some st') : st.uses.length < 400000 ∧ st' = { st with uses := st.uses ++ [u] } := by
 unfold useF at h
 split at h
 ·rename_i hl; exact ⟨hl, by simpa using h.symm⟩
 cases h
theorem CK.app {K : CKey} (hK : CFix K) {T : Nat → Prop} {ua a2 : Option Addr} {uc c2 : Nat} {st : NS} {u : Use} {base W0 wq wa W' : World} {fl : List Nat} (hs0 : CStep K T T base W0) (h : CK K T ua uc st W0) (hq : Keeps [] W0 wq) (hfl : ∀ x ∈ fl, T x) (hka : Keeps fl wq wa) (hown : OwnL UseE 106 8 wa K.w0.heap.size (fun g => T g ∨ False ∨ (wq.heap.size ≤ g ∧ g < wa.heap.size)) (st.uses ++ [u]) (.slice a2 (st.uses ++ [u]).length c2)) (hk : Keeps [K.c] wa W') (hr : W'.heap[K.c]? = some (ckC K { st with uses := st.uses ++ [u] } a2 c2)) : ∃ T' ua' uc', CK K T' ua' uc' { st with uses := st.uses ++ [u] } W' ∧ CStep K T T' base W' := by
 have hcq := h.kp0 hq;have hlt := hcq.lt;have nf : ∀ b, ¬ T b → b ∉ fl := fun b hb hm => hb (hfl b hm)
 refine ⟨fun g => T g ∨ False ∨ (wq.heap.size ≤ g ∧ g < wa.heap.size), a2, c2, ⟨(hcq.keep.trans hka fun x hx => .inr (hcq.dn x (hfl x hx))).trans hk (by simp; exact hK.c), hr, (hcq.fns.keep hka (nf _ hcq.ns.2.1)).keep hk (by simp [Ne.symm hK.ne.1]), (hcq.same.keep hka (nf _ hcq.ns.2.2.1)).keep hk (by simp [Ne.symm hK.ne.2.1]), (hcq.seen.keep hka (nf _ hcq.ns.2.2.2)).keep hk (by simp [Ne.symm hK.ne.2.2.1]), hown.kp useL hk ?_, fun x hx => ?_, fun x hx => ?_, ?_, hcq.fn, hcq.loops⟩, (hs0.loc hq jg).trans ⟨fun x hx => ?_, fl ++ [K.c], fun x hx => ?_, ?_⟩⟩
 ·intro x hx hx2;simp at hx; subst hx
  rcases hx2 with h1 | h1 | h1
  ·exact hcq.ns.1 h1
  ·exact h1
  exact Nat.not_lt_of_le h1.1 hlt.1
 ·rcases hx with h1 | h1 | h1
  ·exact Nat.lt_of_lt_of_le (hcq.up x h1) (Nat.le_trans hka.size hk.size)
  ·exact h1.elim
  exact Nat.lt_of_lt_of_le h1.2 hk.size
 ·rcases hx with h1 | h1 | h1
  ·exact hcq.dn x h1
  ·exact h1.elim
  exact Nat.le_trans hcq.keep.size h1.1
 ·exact ⟨fun h => h.elim hcq.ns.1 fun h => h.elim id fun h => Nat.not_lt_of_le h.1 hlt.1, fun h => h.elim hcq.ns.2.1 fun h => h.elim id fun h => Nat.not_lt_of_le h.1 hlt.2.1, fun h => h.elim hcq.ns.2.2.1 fun h => h.elim id fun h => Nat.not_lt_of_le h.1 hlt.2.2.1, fun h => h.elim hcq.ns.2.2.2 fun h => h.elim id fun h => Nat.not_lt_of_le h.1 hlt.2.2.2⟩
 ·rcases hx with h1 | h1 | h1
  ·exact .inl h1
  ·exact h1.elim
  exact .inr ⟨h1.1, Nat.lt_of_lt_of_le h1.2 hk.size⟩
 ·rcases List.mem_append.1 hx with hx | hx
  ·exact .inr (.inr (.inr (hfl x hx)))
  simp at hx; exact .inl hx
 exact (hka.weaken (fp' := fl ++ [K.c]) (fun x hx => .inl (List.mem_append_left _ hx))).trans hk jg
theorem CK.app' {K : CKey} (hK : CFix K) {T0 T : Nat → Prop} {ua a2 : Option Addr} {uc c2 B : Nat} {ob : Obj} {st : NS} {u : Use} {w base W0 wq wa W' : World} {fl : List Nat} (hs1 : CStep K T0 T w base) (hB : base.heap[B]? = some ob) (ho : Off K T B) (hs0 : CStep K T T base W0) (h : CK K T ua uc st W0) (hq : Keeps [] W0 wq) (hfl : ∀ x ∈ fl, T x) (hka : Keeps fl wq wa) (hown : OwnL UseE 106 8 wa K.w0.heap.size (fun g => T g ∨ False ∨ (wq.heap.size ≤ g ∧ g < wa.heap.size)) (st.uses ++ [u]) (.slice a2 (st.uses ++ [u]).length c2)) (hk : Keeps [K.c] wa W') (hr : W'.heap[K.c]? = some (ckC K { st with uses := st.uses ++ [u] } a2 c2)) : ∃ T' ua' uc', CK K T' ua' uc' { st with uses := st.uses ++ [u] } W' ∧ CStep K T0 T' w W' ∧ W'.heap[B]? = some ob ∧ Off K T' B := by
 obtain ⟨T', ua', uc', h1, h2⟩ := CK.app hK hs0 h hq hfl hka hown hk hr;exact ⟨T', ua', uc', h1, hs1.trans h2, h2.at hB ho, h2.off (h_lt hB) ho⟩
theorem CK.news {K : CKey} {T : Nat → Prop} {ua : Option Addr} {uc : Nat} {st0 st : NS} {base u W : World} {fp : List Nat} (hb : CK K T ua uc st0 base) (h : CK K T ua uc st u) (hk : Keeps fp u W) (hf : ∀ z ∈ fp, base.heap.size ≤ z) : CK K T ua uc st W := by
 have hl := hb.lt;have ne : ∀ b, b < base.heap.size → b ∉ fp := fun b hb hm => Nat.not_lt_of_le (hf b hm) hb
 exact h.kp hk (fun z hz => Nat.le_trans hb.keep.size (hf z hz)) (ne _ hl.1) (ne _ hl.2.1) (ne _ hl.2.2.1) (ne _ hl.2.2.2) (fun z hz ht => Nat.not_lt_of_le (hf z hz) (hb.up z ht))
theorem rootF_root {m : List (Thing × Thing)} : ∀ {f : Nat} {t r : Thing}, rootF m f t = some r → alook r m = none
 | 0, _, _, h => by cases h
 | f + 1, t, r, h => by
   rw [rootF] at h
   cases ha : alook t m with
   | none => rw [ha] at h; simp at h; rw [← h]; exact ha
   | some u => rw [ha] at h; exact rootF_root (f := f) h
theorem CStep.ms {K : CKey} {T0 T : Nat → Prop} {w W W' : World} (h : CStep K T0 T w W) (hk : Keeps [K.ms] W W') : CStep K T0 T w W' :=
 h.trans ⟨fun _ h => .inl h, [K.ms], by simp, hk⟩
theorem CK.unite {K : CKey} (hK : CFix K) {T : Nat → Prop} {ua : Option Addr} {uc : Nat} {st : NS} {W W' : World} (h : CK K T ua uc st W) {t u : Thing} (hn : alook t st.same = none) {es : List (Ent Thing)} {k : Nat} (he : es.map (fun e => (e.key, e.val)) = st.same.map (fun x => (x.1, tval x.2))) (hk : Keeps [K.ms] W W')
  (hb : W'.heap[K.ms]? = some (.map (ents tval (kput t (tval u) k es).1) (kput t (tval u) k es).2)) : CK K T ua uc { st with same := st.same ++ [(t, u)] } W' :=
 ⟨h.keep.trans hk (by simp; exact hK.ms), hk.at h.row (by simp [hK.ne.2.1]), h.fns.keep hk (by simp [hK.ne.2.2.2.1]), MapT.put he hn hb, h.seen.keep hk (by simp [Ne.symm hK.ne.2.2.2.2.2]), h.uses.kp useL hk (by simp; exact h.ns.2.2.1), fun x hx => Nat.lt_of_lt_of_le (h.up x hx) hk.size, h.dn, h.ns, h.fn, h.loops⟩
theorem run_same {K : CKey} {es : List (Ent Thing)} {k : Nat} {W : World} (hb : W.heap[K.ms]? = some (.map (ents tval es) k)) (a b : Thing) :
  (Instr.mapUpdate 66 (.map (some K.ms)) (.agg #[.int .i64 a.1, .string a.2]) (.agg #[.int .i64 b.1, .string b.2])).run Tryz.prog W = .ok () (mset W K.ms (.map (ents tval (kput a (tval b) k es).1) (kput a (tval b) k es).2)) :=
 run_kput (P := Tryz.prog) keyT Tryz.underlying66 hb a (tval b)
def NodeC (K : CKey) (rec : NRec) : Prop := ∀ st n st' v, rec st n = some st' → NodeR K.w0 (fun _ => True) n v → ∀ T ua uc w, CK K T ua uc st w → Calls Tryz.prog 43 #[.pointer (some ⟨K.c, 0, none⟩), v] w fun r w' => ∃ T' ua' uc', r = .returned (.tuple #[]) ∧ CK K T' ua' uc' st' w' ∧ CStep K T T' w w'
theorem ofF_uses (g : ProgP) (st : NS) (name : ByteArray) : (ofF g st name).2.uses = st.uses := by unfold ofF; split <;> rfl
theorem of_at {K : CKey} (hK : CFix K) {T : Nat → Prop} {ua : Option Addr} {uc : Nat} {st : NS} {base : World} (h : CK K T ua uc st base) (name : ByteArray) : ∀ W, Keeps [] base W → Calls Tryz.prog 75 #[.pointer (some ⟨K.c, 0, none⟩), .string name] W fun r w' => ∃ v, r = .returned v ∧ (v = .agg #[.int .i64 (ofF K.g st name).1.1, .string (ofF K.g st name).1.2] ∧ CK K T ua uc (ofF K.g st name).2 w' ∧ CStep K T T base w') :=
 fun W hk => (of_any hK (h.kp0 hk) name).mono fun _ _ ⟨h1, h2, h3⟩ => ⟨_, h1, rfl, h2, ((CStep.refl K T base).loc hk jg).trans h3⟩
theorem root_at {K : CKey} {T : Nat → Prop} {ua : Option Addr} {uc : Nat} {st : NS} {base : World} (h : CK K T ua uc st base) {t r : Thing} {fu : Nat} (hx : rootF st.same fu t = some r) : ∀ W, Keeps [] base W → Calls Tryz.prog 45 #[.pointer (some ⟨K.c, 0, none⟩), .agg #[.int .i64 t.1, .string t.2]] W fun q w' => ∃ v, q = .returned v ∧ (v = .agg #[.int .i64 r.1, .string r.2] ∧ Keeps [] W w') :=
 fun W hk => (root_any (h.kp0 hk) hx).mono fun _ _ ⟨h1, h2⟩ => ⟨_, h1, rfl, h2⟩
open Go.RowKit Go.ChangeMaps
def rootD (st : NS) (t : Thing) : Thing := (rootN st t).getD noT
def spG (t : Thing) : Bool := decide (t.1 = 0) && specialF t.2
def spK (st : NS) (x t : Thing) : Bool := spG t && teq x (rootD st t)
theorem kindsS_ok {st : NS} : ∀ {l : List Thing} {k0 k : Kinds}, kindsS st l k0 = some k → (∀ t ∈ l, spG t = true → rootN st t = some (rootD st t)) ∧ ∀ x, kof x k = if l.any (spK st x) = true then 1 else kof x k0
 | [], k0, k, h => by
   simp only [kindsS, Option.some.injEq] at h;subst h;exact ⟨by simp, by simp⟩
 | t :: l, k0, k, h => by
   unfold kindsS at h
   by_cases hs : t.1 = 0 ∧ specialF t.2 = true
   ·rw [if_pos hs] at h;have hg : spG t = true := by simp [spG, hs.1, hs.2]
    simp only [Option.bind_eq_bind, Option.bind_eq_some_iff] at h;obtain ⟨r, hr, h⟩ := h;have hD : rootD st t = r := by unfold rootD; rw [hr]; rfl
    obtain ⟨h1, h2⟩ := kindsS_ok h;refine ⟨fun u hu hg => ?_, fun x => ?_⟩
    ·rcases List.mem_cons.1 hu with rfl | hu
     ·rw [hr, hD]
     exact h1 u hu hg
    have e2 : kof x ((r, 1) :: k0) = if teq x r then 1 else kof x k0 := by rw [kof]
    rw [h2 x, List.any_cons, e2];have e : spK st x t = teq x r := by unfold spK; rw [hg, hD]; rfl
    rw [e]
    by_cases h3 : teq x r = true
    ·simp [h3]
    simp only [Bool.not_eq_true] at h3;rw [h3, Bool.false_or]
    rfl
   rw [if_neg hs] at h
   have hg : spG t = false := by
    unfold spG
    by_cases h0 : t.1 = 0
    ·simp [h0]; cases h4 : specialF t.2 with
     | false => rfl
     | true => exact absurd ⟨h0, h4⟩ hs
    simp [h0]
   obtain ⟨h1, h2⟩ := kindsS_ok h;refine ⟨fun u hu hgu => ?_, fun x => ?_⟩
   ·rcases List.mem_cons.1 hu with rfl | hu
    ·rw [hg] at hgu; cases hgu
    exact h1 u hu hgu
   rw [h2 x, List.any_cons];have e : spK st x t = false := by unfold spK; rw [hg]; rfl
   rw [e]; rfl
theorem any_perm {α : Type} {f : α → Bool} {p l : List α} (h : p.Perm l) : p.any f = l.any f := by
 induction h with
 | nil => rfl
 | cons x _ ih => simp [ih]
 | swap x y l => simp [Bool.or_left_comm]
 | trans _ _ h1 h2 => exact h1.trans h2
theorem KindW.start {w : World} {b : Nat} (h : w.heap[b]? = some (.map #[] 0)) : KindW w b (fun _ => 0) := ⟨[], 0, h, fun _ => rfl⟩
theorem KindW.of {w : World} {b : Nat} {f g : Thing → Nat} (h : KindW w b f) (e : ∀ x, f x = g x) : KindW w b g := by
 have : f = g := funext e;rw [← this]; exact h
theorem KindW.look {w : World} {b : Nat} {f : Thing → Nat} (h : KindW w b f) (t : Thing) {n : Nat} (hn : n = f t) : (Instr.lookup 103 (.map (some b)) (.agg #[.int .i64 t.1, .string t.2]) false).run Tryz.prog w = .ok (.int .i64 n) w := by
 obtain ⟨es, k, h1, h2⟩ := h;have := run_klook (P := Tryz.prog) keyT Tryz.underlying103 (z := .int .i64 0) (w := w) (by simp [go_sem]) h1 t;rw [hn, ← h2 t];exact this
theorem run_kind {b : Nat} {es : List (Ent Thing)} {k : Nat} {W : World} (hb : W.heap[b]? = some (.map (ents tval es) k)) (a : Thing) (n : Int) :
  (Instr.mapUpdate 103 (.map (some b)) (.agg #[.int .i64 a.1, .string a.2]) (.int .i64 n)).run Tryz.prog W = .ok () (mset W b (.map (ents tval (kput a (.int .i64 n) k es).1) (kput a (.int .i64 n) k es).2)) :=
 run_kput (P := Tryz.prog) keyT Tryz.underlying103 hb a (.int .i64 n)
theorem RangeS.entry {w : World} {r b n : Nat} {l p : List Thing} {t : Thing} (h : RangeS w r b l (p ++ [t]) n) : (Instr.entry (.pointer (some ⟨r, 0, none⟩))).run Tryz.prog w = .ok (.tuple #[.agg #[.int .i64 t.1, .string t.2], .agg #[]]) w := by
 obtain ⟨es, ps, qs, k, h1, h2, h3, h4, h5, rfl⟩ := h;have hne : ps ≠ [] := fun e => by rw [e] at h5; simp at h5
 obtain ⟨qs', e, rfl⟩ : ∃ a e, ps = a ++ [e] := ⟨ps.dropLast, ps.getLast hne, (List.dropLast_concat_getLast hne).symm⟩
 have hk : e.key = t := by
  simp only [List.map_append, List.map_cons, List.map_nil] at h5;exact (List.append_inj_right' h5 rfl |> fun h => by simpa using h.symm)
 have hem : e ∈ es := h4.subset jg
 have hv : e.val = .agg #[] := by
  exact jtd
 have hn : ((ents tval es).toList.map (·.born)).Nodup := by rw [ents_born]; exact h2.2.1
 have h3' : w.heap[r]? = some (.mapIter (some b) k ((qs'.map (·.born)).toArray.push e.born) k) := by simpa using h3
 have := run_entry_at (P := Tryz.prog) w r b k _ _ k (⟨tval e.key, e.val, e.born⟩ : MapEntry) h3' h1 (by simp [ents]; exact ⟨e, hem, rfl, rfl, rfl⟩) hn;rw [hv, hk] at this;exact this
def KinI1 (K : CKey) (T : Nat → Prop) (ua : Option Addr) (uc : Nat) (st : NS) (w : World) (kb it : Nat) (g : Nat) (W : World) : Prop :=
 ∃ p n, RangeS W it K.mn st.seen p n ∧ g = n + 1 ∧ KindW W kb (fun x => if p.any (spK st x) = true then 1 else 0) ∧ CK K T ua uc st W ∧ Keeps [] w W
def KinI2 (K : CKey) (T : Nat → Prop) (ua : Option Addr) (uc : Nat) (st : NS) (kf : Kinds) (w : World) (kb : Nat) (g : Nat) (j : Value) (W : World) : Prop :=
 ∃ k : Nat, j = .int .i64 k ∧ k ≤ st.uses.length ∧ g + k = st.uses.length + 1 ∧ ∃ kk, kindsU st (st.uses.drop k) kk = some kf ∧ KindW W kb (fun x => kof x kk) ∧ CK K T ua uc st W ∧ Keeps [] w W
theorem kinds_any {K : CKey} (hK : CFix K) {T : Nat → Prop} {ua : Option Addr} {uc : Nat} {st : NS} {w : World} (h : CK K T ua uc st w) {kf : Kinds} (hkf : kindsF st = some kf) (hul : st.uses.length ≤ 1000000) : Calls Tryz.prog 44 #[.pointer (some ⟨K.c, 0, none⟩)] w fun r w' => ∃ b, r = .returned (.map (some b)) ∧ w.heap.size ≤ b ∧ KindW w' b (fun x => kof x kf) ∧ Keeps [] w w' := by
 unfold kindsF at hkf;simp only [Option.bind_eq_bind, Option.bind_eq_some_iff] at hkf;obtain ⟨k1, hks, hku1⟩ := hkf;obtain ⟨hroots, hkof⟩ := kindsS_ok hks;have HU1 := zh hku1; have HRO := zh hroots; have HKO := zh hkof;clear hks hku1 hroots hkof;have HC0 := zh h; have HS0 := zh (CStep.refl K T w); have HK0 := zh (Keeps.refl [] w);clear h;have n_kb_mn : w.heap.size ≠ K.mn := fun e => by have := HC0.out.lt; omega
 have n_kb_c : w.heap.size ≠ K.c := fun e => by have := HC0.out.lt; omega
 have n_c_kb := Ne.symm n_kb_c; have n_mn_kb := Ne.symm n_kb_mn;have n_mf_kb : K.mf ≠ w.heap.size := fun e => by have := HC0.out.lt; omega
 have n_ms_kb : K.ms ≠ w.heap.size := fun e => by have := HC0.out.lt; omega
 have o0_kb : K.w0.heap.size ≤ w.heap.size := HC0.out.keep.size;have o_kb : w.heap.size ≤ w.heap.size := Nat.le_refl _;have hmm : (Instr.makeMap 103 none).run Tryz.prog w = .ok (.map (some w.heap.size)) (w.alloc (.map #[] 0)) := rfl
 go_enter Tryz.func44, Tryz.ntmps44
 obtain ⟨l_c, l_mf, l_ms, l_mn⟩ := HC0.out.lt
 go_upto_region 2 with fail
 refine wp_at (fun W => Keeps [] w W ∧ W.heap[w.heap.size]? = some (.map #[] 0)) ⟨zg, zb⟩ ?_;rintro w1 ⟨k1, ck⟩;have HC1 := zh (HC0.out.kp0 k1); have HCB1 := zh (HC0.out.kp0 k1); have HKB1 := zh (KindW.start ck); have HK1 := zh (HK0.out.trans k1 jg);have off_kb := off_new HC0.out (Nat.le_refl _);have hlk := h_lt ck;clear ck k1;obtain ⟨w2, hrun, k2, hsz, hrs⟩ := RangeS.start HC1.out.seen Tryz.underlying67;have HC2 := zh (HC1.out.kp0 k2); have HKB2 := zh (HKB1.out.keep k2 jg); have HK2 := zh (HK1.out.trans k2 jg); have HR2 := zh hrs;have hw1 : w.heap.size ≤ w1.heap.size := HK1.out.size;have off_it := off_new HC0.out hw1;clear k2 hrs hsz HC1 HKB1 HK1;obtain ⟨l_c, xc_0, xc_1, xc_2, xc_3, xc_4, xc_5, xc_6, xc_7, xc_8, xc_9, xc_10, yc_0, yc_1, yc_2, yc_3, yc_4, yc_5, yc_6, yc_7, yc_8, yc_9, yc_10⟩ := cf11 (HCB1.out.row)
 go_wp2_with fail
 go_loopg [] (st.seen.length + 1) (fun g wr => KinI1 K T ua uc st w (w.heap.size) (w1.heap.size) g wr)
 case atStart => exact ⟨[], st.seen.length, HR2.out, rfl, HKB2.out.of (fun x => rfl), HC2.out, HK2.out⟩
 have n_kb_it : w.heap.size ≠ w1.heap.size := Nat.ne_of_lt hlk;have n_it_kb := Ne.symm n_kb_it
 rename World => wo
 obtain ⟨p, n, hrs, hg, hkb, hc, hk⟩ := hrel;have HCwo := zh hc; have HKBwo := zh hkb; have HKwo := zh hk; have HSwo := zh ((CStep.refl K T w).loc hk jg);clear hc hkb hk
 rcases hrs.next 0 with ⟨hperm, hrun2⟩ | ⟨t, n2, wn, ht, hn, hrun2, hkn, hszn, hrn⟩
 ·have HOF : Hid (∀ x, (if p.any (spK st x) = true then 1 else 0) = kof x k1) := zh (fun x => by rw [HKO.out x, any_perm hperm]; rfl);clear hrs hperm;have l_kb := HKBwo.out.lt;obtain ⟨l_c, xc_0, xc_1, xc_2, xc_3, xc_4, xc_5, xc_6, xc_7, xc_8, xc_9, xc_10, yc_0, yc_1, yc_2, yc_3, yc_4, yc_5, yc_6, yc_7, yc_8, yc_9, yc_10⟩ := cf11 HCwo.out.row;obtain ⟨-, l_mf, l_ms, l_mn⟩ := HCwo.out.lt;obtain ⟨ua0, hua0⟩ : ∃ x, ua = x := ⟨_, rfl⟩;have HUA := zh hua0;rw [hua0] at xc_6;clear hua0
  go_wp2_with fail
  clear l_c xc_0 xc_1 xc_2 xc_3 xc_4 xc_5 xc_6 xc_7 xc_8 xc_9 xc_10 yc_0 yc_1 yc_2 yc_3 yc_4 yc_5 yc_6 yc_7 yc_8 yc_9 yc_10 l_mf l_ms l_mn l_kb
  go_loopg [34] (st.uses.length + 1) (fun g j wr => KinI2 K T ua uc st kf w (w.heap.size) g j wr)
  case atStart => exact ⟨0, rfl, Nat.zero_le _, rfl, k1, HU1.out, HKBwo.out.of HOF.out, HCwo.out, HKwo.out⟩
  obtain ⟨k, rfl, hk1, hk2, kk, hku, hkb, hc, hk⟩ := hrel;have HCwr := zh hc; have HKBwr := zh hkb; have HKwr := zh hk; have HSwr := zh ((CStep.refl K T w).loc hk jg);clear hc hkb hk
  by_cases hlt : k < st.uses.length
  ·obtain ⟨gu, hgu, q0, q1, q2, q3, q4, q5, q6, q7⟩ := CK.use HCwr.out hlt;have euu := HUA.out.symm.trans hgu;subst euu;have lgu : gu < wr.heap.size := lt_cell q0;rw [List.drop_eq_getElem_cons hlt, kindsU] at hku;generalize st.uses[k] = u at *
   cases gk with
   | zero => omega
   | succ f =>
    cases hkid : u.kid with
    | true =>
     rw [if_pos (by rw [hkid]; rfl)] at hku;have l_kb := HKBwr.out.lt;obtain ⟨l_c, l_mf, l_ms, l_mn⟩ := HCwr.out.lt
     go_wp2_with fail
     go_roundg f
     case measure => omega
     refine inv_at (fun W => Keeps [] wr W ∧ W.heap[wr.heap.size]? = some (.cells #[.complex .f64 u.re u.im, .int .i64 u.of.1, .string u.of.2, .bool u.array, .int .i64 u.param.1, .string u.param.2, .bool true, .bool u.bad] 106 (0, 0))) ⟨zg, zb⟩ ?_;exact zmd
    | false =>
     cases hbad : u.bad with
     | true =>
      rw [if_pos (by rw [hkid, hbad]; rfl)] at hku;have l_kb := HKBwr.out.lt;obtain ⟨l_c, l_mf, l_ms, l_mn⟩ := HCwr.out.lt
      go_wp2_with fail
      go_roundg f
      case measure => omega
      refine inv_at (fun W => Keeps [] wr W ∧ W.heap[wr.heap.size]? = some (.cells #[.complex .f64 u.re u.im, .int .i64 u.of.1, .string u.of.2, .bool u.array, .int .i64 u.param.1, .string u.param.2, .bool false, .bool true] 106 (0, 0))) ⟨zg, zb⟩ ?_;exact zmd
     | false =>
      rw [if_neg (by rw [hkid, hbad]; simp)] at hku;simp only [Option.bind_eq_bind, Option.bind_eq_some_iff] at hku;obtain ⟨r, hrt, hku⟩ := hku;have HRT := zh hrt;clear hrt;obtain ⟨kn, hkn⟩ : ∃ x, x = kof r kk := ⟨_, rfl⟩;have HKN := zh hkn;rw [← hkn] at hku;clear hkn
      by_cases h0 : kn > 0
      ·rw [if_pos h0] at hku;have d0 : (0 : Int) < (kn : Int) := by omega
       have d1 : decide (0 < kn) = true := by simp [h0]
       have l_kb := HKBwr.out.lt;obtain ⟨l_c, l_mf, l_ms, l_mn⟩ := HCwr.out.lt
       go_wp2_with fail
       refine calls_at (fun W => Keeps [] wr W ∧ W.heap[wr.heap.size]? = some (.cells #[.complex .f64 u.re u.im, .int .i64 u.of.1, .string u.of.2, .bool u.array, .int .i64 u.param.1, .string u.param.2, .bool false, .bool false] 106 (0, 0))) ⟨zg, zb⟩ ?_;rintro w71 ⟨Kw71, cw71_U⟩;have ⟨n_c_U, n_U_c⟩ := zne l_c;have ⟨n_mf_U, n_U_mf⟩ := zne l_mf;have ⟨n_ms_U, n_U_ms⟩ := zne l_ms;have ⟨n_mn_U, n_U_mn⟩ := zne l_mn;have ⟨n_kb_U, n_U_kb⟩ := zne l_kb;have o_U : w.heap.size ≤ wr.heap.size := HSwr.out.size;have off_U : Off K T (wr.heap.size) := off_new HCwr.out (Nat.le_refl _);have o0_U : K.w0.heap.size ≤ wr.heap.size := Nat.le_trans HCwr.out.keep.size (Nat.le_refl _);have HCw71 := zh (HCwr.out.kp0 Kw71);have HSw71 := zh (HSwr.out.loc Kw71 jg);have HKw71 := zh (HKwr.out.trans Kw71 jg);have HKkbw71 := zh (HKBwr.out.keep Kw71 jg);have Rw71_U := zh cw71_U;clear Kw71 cw71_U l_c l_mf l_ms l_mn l_kb HCwr HSwr HKwr HKBwr;refine (root_any HCw71.out HRT.out).mono ?_;rintro r e72 ⟨rfl, hk⟩;have Re72_U := zh (hk.at Rw71_U.out jg);have HCe72 := zh (HCw71.out.kp0 hk);have HSe72 := zh (HSw71.out.loc hk jg);have HKe72 := zh (HKw71.out.trans hk jg);have HKkbe72 := zh (HKkbw71.out.keep hk jg);clear hk Rw71_U HCw71 HSw71 HKw71 HKkbw71;have l_kb := HKkbe72.out.lt;obtain ⟨l_c, l_mf, l_ms, l_mn⟩ := HCe72.out.lt;have l_U := h_lt Re72_U.out;have hlk2 := HKkbe72.out.look r (n := kn) HKN.out
       go_wp2_with fail
       go_roundg f
       case measure => omega
       exact ⟨k + 1, by first | rfl | (simp; done) | (simp; omega), by omega, by omega, _, hku, HKkbe72.out, HCe72.out, HKe72.out⟩
      rw [if_neg h0] at hku;have hz : kn = 0 := by omega
      have d0 : decide (0 < kn) = false := by simp [hz]
      cases harr : u.array with
      | true =>
       rw [harr, if_pos rfl] at hku;have HOF : Hid (∀ x, (if x = r then 2 else kof x kk) = kof x ((r, 2) :: kk)) := zh (fun x => by rw [kof]; by_cases h : x = r <;> simp [h, teq_iff]);have l_kb := HKBwr.out.lt;obtain ⟨l_c, l_mf, l_ms, l_mn⟩ := HCwr.out.lt
       go_wp2_with fail
       refine calls_at (fun W => Keeps [] wr W ∧ W.heap[wr.heap.size]? = some (.cells #[.complex .f64 u.re u.im, .int .i64 u.of.1, .string u.of.2, .bool true, .int .i64 u.param.1, .string u.param.2, .bool false, .bool false] 106 (0, 0))) ⟨zg, zb⟩ ?_;rintro w71 ⟨Kw71, cw71_U⟩;have ⟨n_c_U, n_U_c⟩ := zne l_c;have ⟨n_mf_U, n_U_mf⟩ := zne l_mf;have ⟨n_ms_U, n_U_ms⟩ := zne l_ms;have ⟨n_mn_U, n_U_mn⟩ := zne l_mn;have ⟨n_kb_U, n_U_kb⟩ := zne l_kb;have o_U : w.heap.size ≤ wr.heap.size := HSwr.out.size;have off_U : Off K T (wr.heap.size) := off_new HCwr.out (Nat.le_refl _);have o0_U : K.w0.heap.size ≤ wr.heap.size := Nat.le_trans HCwr.out.keep.size (Nat.le_refl _);have HCw71 := zh (HCwr.out.kp0 Kw71);have HSw71 := zh (HSwr.out.loc Kw71 jg);have HKw71 := zh (HKwr.out.trans Kw71 jg);have HKkbw71 := zh (HKBwr.out.keep Kw71 jg);have Rw71_U := zh cw71_U;clear Kw71 cw71_U l_c l_mf l_ms l_mn l_kb HCwr HSwr HKwr HKBwr;refine (root_any HCw71.out HRT.out).mono ?_;rintro r e72 ⟨rfl, hk⟩;have Re72_U := zh (hk.at Rw71_U.out jg);have HCe72 := zh (HCw71.out.kp0 hk);have HSe72 := zh (HSw71.out.loc hk jg);have HKe72 := zh (HKw71.out.trans hk jg);have HKkbe72 := zh (HKkbw71.out.keep hk jg);clear hk Rw71_U HCw71 HSw71 HKw71 HKkbw71;have l_kb := HKkbe72.out.lt;obtain ⟨l_c, l_mf, l_ms, l_mn⟩ := HCe72.out.lt;obtain ⟨l_U, xU_0, xU_1, xU_2, xU_3, xU_4, xU_5, xU_6, xU_7, yU_0, yU_1, yU_2, yU_3, yU_4, yU_5, yU_6, yU_7⟩ := cf8 Re72_U.out
       have hlk2 := HKkbe72.out.look r (n := kn) HKN.out
       go_wp2_with fail
       clear l_c l_U xU_0 xU_1 xU_2 xU_3 xU_4 xU_5 xU_6 xU_7 yU_0 yU_1 yU_2 yU_3 yU_4 yU_5 yU_6 yU_7 l_mf l_ms l_mn l_kb;refine (root_any HCe72.out HRT.out).mono ?_;rintro r e73 ⟨rfl, hk⟩;have Re73_U := zh (hk.at Re72_U.out jg);have HCe73 := zh (HCe72.out.kp0 hk);have HSe73 := zh (HSe72.out.loc hk jg);have HKe73 := zh (HKe72.out.trans hk jg);have HKkbe73 := zh (HKkbe72.out.keep hk jg);clear hk Re72_U HCe72 HSe72 HKe72 HKkbe72;have l_kb := HKkbe73.out.lt;obtain ⟨l_c, l_mf, l_ms, l_mn⟩ := HCe73.out.lt;have l_U := h_lt Re73_U.out;obtain ⟨es, ek, hes, hes2⟩ := HKkbe73.out;have HEB := zh hes; have HES := zh hes2;clear hes hes2;have hup := run_kind HEB.out r 2
       go_wp2_with fail
       go_roundg f
       case measure => omega
       refine inv_at (fun W => Keeps [(w.heap.size)] e73 W ∧ W.heap[(w.heap.size)]? = some (.map (ents tval (kput r (.int .i64 2) ek es).1) (kput r (.int .i64 2) ek es).2)) ⟨zg, (qb HEB.out l_kb)⟩ ?_;exact zpd
      | false =>
       rw [harr, if_neg jg] at hku;have HOF : Hid (∀ x, (if x = r then 1 else kof x kk) = kof x ((r, 1) :: kk)) := zh (fun x => by rw [kof]; by_cases h : x = r <;> simp [h, teq_iff]);have l_kb := HKBwr.out.lt;obtain ⟨l_c, l_mf, l_ms, l_mn⟩ := HCwr.out.lt
       go_wp2_with fail
       refine calls_at (fun W => Keeps [] wr W ∧ W.heap[wr.heap.size]? = some (.cells #[.complex .f64 u.re u.im, .int .i64 u.of.1, .string u.of.2, .bool false, .int .i64 u.param.1, .string u.param.2, .bool false, .bool false] 106 (0, 0))) ⟨zg, zb⟩ ?_;rintro w71 ⟨Kw71, cw71_U⟩;have ⟨n_c_U, n_U_c⟩ := zne l_c;have ⟨n_mf_U, n_U_mf⟩ := zne l_mf;have ⟨n_ms_U, n_U_ms⟩ := zne l_ms;have ⟨n_mn_U, n_U_mn⟩ := zne l_mn;have ⟨n_kb_U, n_U_kb⟩ := zne l_kb;have o_U : w.heap.size ≤ wr.heap.size := HSwr.out.size;have off_U : Off K T (wr.heap.size) := off_new HCwr.out (Nat.le_refl _);have o0_U : K.w0.heap.size ≤ wr.heap.size := Nat.le_trans HCwr.out.keep.size (Nat.le_refl _);have HCw71 := zh (HCwr.out.kp0 Kw71);have HSw71 := zh (HSwr.out.loc Kw71 jg);have HKw71 := zh (HKwr.out.trans Kw71 jg);have HKkbw71 := zh (HKBwr.out.keep Kw71 jg);have Rw71_U := zh cw71_U;clear Kw71 cw71_U l_c l_mf l_ms l_mn l_kb HCwr HSwr HKwr HKBwr;refine (root_any HCw71.out HRT.out).mono ?_;rintro r e72 ⟨rfl, hk⟩;have Re72_U := zh (hk.at Rw71_U.out jg);have HCe72 := zh (HCw71.out.kp0 hk);have HSe72 := zh (HSw71.out.loc hk jg);have HKe72 := zh (HKw71.out.trans hk jg);have HKkbe72 := zh (HKkbw71.out.keep hk jg);clear hk Rw71_U HCw71 HSw71 HKw71 HKkbw71;have l_kb := HKkbe72.out.lt;obtain ⟨l_c, l_mf, l_ms, l_mn⟩ := HCe72.out.lt;obtain ⟨l_U, xU_0, xU_1, xU_2, xU_3, xU_4, xU_5, xU_6, xU_7, yU_0, yU_1, yU_2, yU_3, yU_4, yU_5, yU_6, yU_7⟩ := cf8 Re72_U.out
       have hlk2 := HKkbe72.out.look r (n := kn) HKN.out
       go_wp2_with fail
       clear l_c l_U xU_0 xU_1 xU_2 xU_3 xU_4 xU_5 xU_6 xU_7 yU_0 yU_1 yU_2 yU_3 yU_4 yU_5 yU_6 yU_7 l_mf l_ms l_mn l_kb;refine (root_any HCe72.out HRT.out).mono ?_;rintro r e73 ⟨rfl, hk⟩;have Re73_U := zh (hk.at Re72_U.out jg);have HCe73 := zh (HCe72.out.kp0 hk);have HSe73 := zh (HSe72.out.loc hk jg);have HKe73 := zh (HKe72.out.trans hk jg);have HKkbe73 := zh (HKkbe72.out.keep hk jg);clear hk Re72_U HCe72 HSe72 HKe72 HKkbe72;have l_kb := HKkbe73.out.lt;obtain ⟨l_c, l_mf, l_ms, l_mn⟩ := HCe73.out.lt;have l_U := h_lt Re73_U.out;obtain ⟨es, ek, hes, hes2⟩ := HKkbe73.out;have HEB := zh hes; have HES := zh hes2;clear hes hes2;have hup := run_kind HEB.out r 1
       go_wp2_with fail
       go_roundg f
       case measure => omega
       refine inv_at (fun W => Keeps [(w.heap.size)] e73 W ∧ W.heap[(w.heap.size)]? = some (.map (ents tval (kput r (.int .i64 1) ek es).1) (kput r (.int .i64 1) ek es).2)) ⟨zg, (qb HEB.out l_kb)⟩ ?_;exact zpd
  have hke : k = st.uses.length := by omega
  rw [hke, List.drop_length, kindsU] at hku;obtain rfl : kk = kf := by simpa using hku
  clear hku hke;have l_kb := HKBwr.out.lt;obtain ⟨l_c, l_mf, l_ms, l_mn⟩ := HCwr.out.lt
  go_wp2_with fail
  refine ret_at (v := .map (some w.heap.size)) (fun W => Keeps [] wr W) zg (fun w71 hW => ?_) rfl (fun w71 hW => ?_)
  ·have Kw71 : Keeps [] wr w71 := hW;exact jnb
  have Kw71 : Keeps [] wr w71 := hW;have HCw71 := zh (HCwr.out.kp0 Kw71);have HSw71 := zh (HSwr.out.loc Kw71 jg);have HKw71 := zh (HKwr.out.trans Kw71 jg);have HKkbw71 := zh (HKBwr.out.keep Kw71 jg);clear Kw71 l_c l_mf l_ms l_mn l_kb HCwr HSwr HKwr HKBwr;exact ⟨_, rfl, Nat.le_refl _, HKkbw71.out, HKw71.out⟩
 have hent := hrn.entry;have lwn : wo.heap.size = wn.heap.size := hszn.symm;have HCwn := zh (CK.news HC0.out HCwo.out hkn (by simp; exact hw1)); have HKBwn := zh (HKBwo.out.keep hkn (by simp [n_kb_it])); have HKwn := zh (HKwo.out.trans hkn (by simp; exact hw1)); have HRwn := zh hrn;have HSwn := zh ((CStep.refl K T w).loc HKwn.out jg);have HRO1 := HRO.out t ht;clear hrs hrn hkn lwn hszn HCwo HKBwo HKwo HSwo;have n_mn_it : K.mn ≠ w1.heap.size := fun e => by have := HC0.out.lt; omega
 cases gk with
 | zero => omega
 | succ m =>
  by_cases h0 : t.1 = 0
  ·have d0 : ((t.1 : Int) == 0) = true := by simp [h0]
   have d1 : (t.1 == 0) = true := by simp [h0]
   cases hsp : specialF t.2 with
   | true =>
    obtain ⟨r, hrr⟩ : ∃ r, r = rootD st t := ⟨_, rfl⟩;have hgs : spG t = true := by simp [spG, h0, hsp]
    have HRT : Hid (rootN st t = some r) := zh (by rw [hrr]; exact HRO1 hgs)
    have HOF : Hid (∀ x, (if x = r then 1 else if p.any (spK st x) = true then 1 else 0) = if (p ++ [t]).any (spK st x) = true then 1 else 0) := zh (fun x => by
     have e : spK st x t = teq x r := by unfold spK; rw [hgs, ← hrr]; rfl
     simp only [List.any_append, List.any_cons, List.any_nil, Bool.or_false, e]
     by_cases h : x = r
     ·simp [h, teq_iff.2 rfl]
     have : teq x r = false := by cases h2 : teq x r with | false => rfl | true => exact absurd (teq_iff.1 h2) h
     rw [if_neg h, this, Bool.or_false])
    clear hrr hgs HRO1 h0;have l_kb := HKBwn.out.lt;obtain ⟨l_c, l_mf, l_ms, l_mn⟩ := HCwn.out.lt
    go_wp2_with fail
    refine qkc ?_;rintro w51 ⟨Kw51, cw51_B⟩;have ⟨n_c_B, n_B_c⟩ := zne l_c;have ⟨n_mf_B, n_B_mf⟩ := zne l_mf;have ⟨n_ms_B, n_B_ms⟩ := zne l_ms;have ⟨n_mn_B, n_B_mn⟩ := zne l_mn;have ⟨n_kb_B, n_B_kb⟩ := zne l_kb;have o_B : w.heap.size ≤ wn.heap.size := HSwn.out.size;have off_B : Off K T (wn.heap.size) := off_new HCwn.out (Nat.le_refl _);have o0_B : K.w0.heap.size ≤ wn.heap.size := Nat.le_trans HCwn.out.keep.size (Nat.le_refl _);have HCw51 := zh (HCwn.out.kp0 Kw51);have HSw51 := zh (HSwn.out.loc Kw51 jg);have HKw51 := zh (HKwn.out.trans Kw51 jg);have HKkbw51 := zh (HKBwn.out.keep Kw51 jg);have HRw51 := zh (HRwn.out.keep Kw51 jg jg);have Rw51_B := zh cw51_B;clear Kw51 cw51_B l_c l_mf l_ms l_mn l_kb HCwn HSwn HKwn HKBwn HRwn;refine (special_any t.2 _).mono ?_;rintro r w' ⟨rfl, hw'⟩;rw [hw'];clear hw';have l_kb := HKkbw51.out.lt;obtain ⟨l_c, l_mf, l_ms, l_mn⟩ := HCw51.out.lt;obtain ⟨l_B, xB_0, xB_1, yB_0, yB_1⟩ := cf2 Rw51_B.out
    go_wp2_with fail
    clear l_c l_B xB_0 xB_1 yB_0 yB_1 l_mf l_ms l_mn l_kb;refine (root_any HCw51.out HRT.out).mono ?_;rintro r e52 ⟨rfl, hk⟩;have Re52_B := zh (hk.at Rw51_B.out jg);have HCe52 := zh (HCw51.out.kp0 hk);have HSe52 := zh (HSw51.out.loc hk jg);have HKe52 := zh (HKw51.out.trans hk jg);have HKkbe52 := zh (HKkbw51.out.keep hk jg);have HRe52 := zh (HRw51.out.keep hk jg jg);clear hk Rw51_B HCw51 HSw51 HKw51 HKkbw51 HRw51;have l_kb := HKkbe52.out.lt;obtain ⟨l_c, l_mf, l_ms, l_mn⟩ := HCe52.out.lt;have l_B := h_lt Re52_B.out;obtain ⟨es, ek, hes, hes2⟩ := HKkbe52.out;have HEB := zh hes; have HES := zh hes2;clear hes hes2;have hup := run_kind HEB.out r 1
    go_wp2_with fail
    go_roundg m
    case measure => omega
    refine inv_at (fun W => Keeps [(w.heap.size)] e52 W ∧ W.heap[(w.heap.size)]? = some (.map (ents tval (kput r (.int .i64 1) ek es).1) (kput r (.int .i64 1) ek es).2)) ⟨zg, (qb HEB.out l_kb)⟩ ?_;rintro w53 ⟨Kw53, cw53_kb⟩;have Rw53_B := zh (Kw53.at Re52_B.out (by simp [n_B_kb]));have HCw53 := zh (HCe52.out.kp Kw53 (by simp [o0_kb]) (by simp [n_c_kb]) (by simp [n_mf_kb]) (by simp [n_ms_kb]) (by simp [n_mn_kb]) (by simp [(off_kb).2.2.2]));have HSw53 := zh (HSe52.out.loc Kw53 jbb);have HKw53 := zh (HKe52.out.trans Kw53 jbb);have HRw53 := zh (HRe52.out.keep Kw53 (by simp [n_mn_kb]) (by simp [n_it_kb]));have Rw53_kb := zh cw53_kb;clear Kw53 cw53_kb l_c l_B l_mf l_ms l_mn l_kb Re52_B HCe52 HSe52 HKe52 HKkbe52 HRe52;exact ⟨p ++ [t], n2, HRw53.out, by omega, (KindW.put HES.out Rw53_kb.out).of HOF.out, HCw53.out, HKw53.out⟩
   | false =>
    have HOF : Hid (∀ x, (if p.any (spK st x) = true then 1 else 0) = if (p ++ [t]).any (spK st x) = true then 1 else 0) := zh (fun x => by
     have e : spK st x t = false := by unfold spK spG; rw [hsp]; simp
     simp only [List.any_append, List.any_cons, List.any_nil, Bool.or_false, e])
    clear HRO1 h0;have l_kb := HKBwn.out.lt;obtain ⟨l_c, l_mf, l_ms, l_mn⟩ := HCwn.out.lt
    go_wp2_with fail
    refine qkc ?_;rintro w51 ⟨Kw51, cw51_B⟩;have ⟨n_c_B, n_B_c⟩ := zne l_c;have ⟨n_mf_B, n_B_mf⟩ := zne l_mf;have ⟨n_ms_B, n_B_ms⟩ := zne l_ms;have ⟨n_mn_B, n_B_mn⟩ := zne l_mn;have ⟨n_kb_B, n_B_kb⟩ := zne l_kb;have o_B : w.heap.size ≤ wn.heap.size := HSwn.out.size;have off_B : Off K T (wn.heap.size) := off_new HCwn.out (Nat.le_refl _);have o0_B : K.w0.heap.size ≤ wn.heap.size := Nat.le_trans HCwn.out.keep.size (Nat.le_refl _);have HCw51 := zh (HCwn.out.kp0 Kw51);have HSw51 := zh (HSwn.out.loc Kw51 jg);have HKw51 := zh (HKwn.out.trans Kw51 jg);have HKkbw51 := zh (HKBwn.out.keep Kw51 jg);have HRw51 := zh (HRwn.out.keep Kw51 jg jg);have Rw51_B := zh cw51_B;clear Kw51 cw51_B l_c l_mf l_ms l_mn l_kb HCwn HSwn HKwn HKBwn HRwn;refine (special_any t.2 _).mono ?_;rintro r w' ⟨rfl, hw'⟩;rw [hw'];clear hw';have l_kb := HKkbw51.out.lt;obtain ⟨l_c, l_mf, l_ms, l_mn⟩ := HCw51.out.lt;have l_B := h_lt Rw51_B.out
    go_wp2_with fail
    go_roundg m
    case measure => omega
    exact zlc
  have d0 : ((t.1 : Int) == 0) = false := by simp; omega
  have d1 : (t.1 == 0) = false := by simp [h0]
  have HOF : Hid (∀ x, (if p.any (spK st x) = true then 1 else 0) = if (p ++ [t]).any (spK st x) = true then 1 else 0) := zh (fun x => by
   have e : spK st x t = false := by unfold spK spG; simp [h0]
   simp only [List.any_append, List.any_cons, List.any_nil, Bool.or_false, e])
  clear HRO1 h0;have l_kb := HKBwn.out.lt;obtain ⟨l_c, l_mf, l_ms, l_mn⟩ := HCwn.out.lt
  go_wp2_with fail
  go_roundg m
  case measure => omega
  refine jlc ?_;rintro w51 ⟨Kw51, cw51_B⟩;have ⟨n_c_B, n_B_c⟩ := zne l_c;have ⟨n_mf_B, n_B_mf⟩ := zne l_mf;have ⟨n_ms_B, n_B_ms⟩ := zne l_ms;have ⟨n_mn_B, n_B_mn⟩ := zne l_mn;have ⟨n_kb_B, n_B_kb⟩ := zne l_kb;have o_B : w.heap.size ≤ wn.heap.size := HSwn.out.size;have off_B : Off K T (wn.heap.size) := off_new HCwn.out (Nat.le_refl _);have o0_B : K.w0.heap.size ≤ wn.heap.size := Nat.le_trans HCwn.out.keep.size (Nat.le_refl _);have HCw51 := zh (HCwn.out.kp0 Kw51);have HSw51 := zh (HSwn.out.loc Kw51 jg);have HKw51 := zh (HKwn.out.trans Kw51 jg);have HKkbw51 := zh (HKBwn.out.keep Kw51 jg);have HRw51 := zh (HRwn.out.keep Kw51 jg jg);have Rw51_B := zh cw51_B;clear Kw51 cw51_B l_c l_mf l_ms l_mn l_kb HCwn HSwn HKwn HKBwn HRwn;exact zlc
end Go.Proofs.YtkfillfkbhbbjaaGreatDoor
