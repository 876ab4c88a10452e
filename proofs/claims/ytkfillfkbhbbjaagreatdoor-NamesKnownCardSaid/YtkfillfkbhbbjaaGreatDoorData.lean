/- Slices read: of strings, of functions, of rules; a program. -/
import Derived.Test.YtkfillfkbhbbjaaGreatDoorJoinP
set_option maxRecDepth 100000
set_option maxHeartbeats 4000000
set_option linter.unusedSimpArgs false
set_option linter.unusedVariables false
namespace Go.Proofs.YtkfillfkbhbbjaaGreatDoor
open Go.RowKit

/-- The value v is a slice of these; it and what its elements lie in are blocks of S. -/
def SliceR {α : Type} (E : World → (Nat → Prop) → α → List Value → Prop) (w : World) (S : Nat → Prop) (l : List α) (v : Value) : Prop :=
 ∃ a cap, v = .slice a l.length cap ∧ l.length ≤ cap ∧ (0 < l.length → ∃ g o xs, a = some ⟨g, o, none⟩ ∧ S g ∧ g < w.heap.size ∧ Elems (E w S) l xs ∧ ∀ j u, xs[j]? = some u → w.cell? ⟨g, o + j, none⟩ = some u)
section
variable {α : Type} {E : World → (Nat → Prop) → α → List Value → Prop} {size : Nat}
theorem SliceR.kp (hE : ElemL E size) {w w' : World} {S : Nat → Prop} {fp : List Nat} {l : List α} {v : Value} (h : SliceR E w S l v) (hk : Keeps fp w w') (hf : ∀ x ∈ fp, ¬ S x) : SliceR E w' S l v := by
 obtain ⟨a, cap, rfl, hcap, h⟩ := h
 refine ⟨a, cap, rfl, hcap, fun h0 => ?_⟩
 obtain ⟨g, o, xs, rfl, hS, hg, hx, hc⟩ := h h0
 exact ⟨g, o, xs, rfl, hS, Nat.lt_of_lt_of_le hg hk.size, hx.mono fun a c h => hE.keep h hk hf fun _ h => h, fun j u hj => by
  rw [World.cell?_of_block (w := w) (a := ⟨g, o + j, none⟩) (hk.block g hg fun hm => hf g hm hS)]; exact hc j u hj⟩
theorem SliceR.to (hE : ElemL E size) {w : World} {S T : Nat → Prop} {l : List α} {v : Value} (h : SliceR E w S l v) (hT : ∀ x, S x → T x) : SliceR E w T l v := by
 obtain ⟨a, cap, rfl, hcap, h⟩ := h
 refine ⟨a, cap, rfl, hcap, fun h0 => ?_⟩
 obtain ⟨g, o, xs, rfl, hS, hg, hx, hc⟩ := h h0
 exact ⟨g, o, xs, rfl, hT _ hS, hg, hx.mono fun a c h => hE.keep h (Keeps.refl [] w) (by simp) hT, hc⟩
theorem SliceR.nil {w : World} {S : Nat → Prop} {a : Option Addr} {cap : Nat} : SliceR E w S [] (.slice a 0 cap) := ⟨a, cap, rfl, Nat.zero_le _, fun h => absurd h (by simp)⟩
theorem sliceR_of_own (hE : ElemL E size) {e : TypeId} {w : World} {b : Nat} {T : Nat → Prop} {l : List α} {v : Value} (h : OwnL E e size w b T l v) : SliceR E w T l v := by
 obtain ⟨xs, ho, ht, hx⟩ := h
 rcases ho.2 with ⟨rfl, hn⟩ | ⟨g, cap, cur, rfl, hb, hg, h1, h2, h3, h4⟩
 ·exact ⟨none, 0, by rw [hn], by omega, fun h => by omega⟩
 ·refine ⟨_, cap, rfl, h1, fun h0 => ⟨g, 0, xs, rfl, ht g rfl, h_lt hg, hx.mono fun a c h => hE.keep h (Keeps.refl [] w) (by simp) fun _ h => h.1, fun j u hj => ?_⟩⟩
  rw [Nat.zero_add, cell_of_heap hg]
  have hj2 : (cur.toList.take (l.length * size))[j]? = some u := by rw [h4]; exact hj
  rw [List.getElem?_take] at hj2
  split at hj2
  ·simpa using hj2
  ·cases hj2
theorem Elems.get {F : α → List Value → Prop} {k : Nat} (hlen : ∀ a c, F a c → c.length = k) {l : List α} {xs : List Value} (h : Elems F l xs) : ∀ i (hi : i < l.length), ∃ c, F l[i] c ∧ ∀ j u, c[j]? = some u → xs[i * k + j]? = some u := by
 induction h with
 | nil => intro i hi; simp at hi
 | cons h1 t ih =>
  rename_i a c l xs
  intro i hi
  cases i with
  | zero =>
   refine ⟨c, h1, fun j u hj => ?_⟩
   have hjl : j < c.length := (List.getElem?_eq_some_iff.1 hj).1
   rw [Nat.zero_mul, Nat.zero_add, List.getElem?_append_left hjl]; exact hj
  | succ i =>
   obtain ⟨d, h2, h3⟩ := ih i (by simpa using hi)
   refine ⟨d, by simpa using h2, fun j u hj => ?_⟩
   have h4 := h3 j u hj
   have h5 := hlen _ _ h1
   rw [List.getElem?_append_right (by rw [h5, Nat.add_mul]; omega), h5, show (i + 1) * k + j - k = i * k + j from by rw [Nat.add_mul]; omega]
   exact h4
/-- An element of a slice. -/
theorem SliceR.cap {w : World} {S : Nat → Prop} {l : List α} {a : Option Addr} {n cap : Nat} (h : SliceR E w S l (.slice a n cap)) : l.length ≤ cap := by
 obtain ⟨a', cap', hv, hc, -⟩ := h
 injection hv with _ _ h3
 rw [h3]; exact hc
theorem SliceR.get (hE : ElemL E size) {w : World} {S : Nat → Prop} {l : List α} {v : Value} (h : SliceR E w S l v) {i : Nat} (hi : i < l.length) :
  ∃ g o cap c, v = .slice (some ⟨g, o, none⟩) l.length cap ∧ S g ∧ g < w.heap.size ∧ E w S l[i] c ∧ ∀ j u, c[j]? = some u → w.cell? ⟨g, o + (i * size + j), none⟩ = some u := by
 obtain ⟨a, cap, rfl, -, h⟩ := h
 obtain ⟨g, o, xs, rfl, hS, hg, hx, hc⟩ := h (by omega)
 obtain ⟨c, h1, h2⟩ := hx.get (fun a c h => hE.len h) i hi
 exact ⟨g, o, cap, c, rfl, hS, hg, h1, fun j u hj => hc _ _ (h2 j u hj)⟩
end

/-! ### strings -/
def StrE (_ : World) (_ : Nat → Prop) (u : ByteArray) (c : List Value) : Prop := c = [.string u]
theorem strL : ElemL StrE 1 := {
 keep := fun h _ _ _ => h
 len := fun h => by rw [h]; rfl
 one := fun h u hu => by rw [h] at hu; simp at hu; rw [hu]; rfl
 }
theorem info9 : ∃ i, Tryz.prog.info? 9 = some i ∧ i.zero = some (.string ⟨#[]⟩) ∧ i.size = 1 ∧ i.bytes = 16 := by
 have h : (Tryz.prog.info? 9).map (fun i => (i.zero, i.size, i.bytes)) = some (some (.string ⟨#[]⟩), 1, 16) := by kernel_rfl
 cases hi : Tryz.prog.info? 9 with
 | none => rw [hi] at h; cases h
 | some i => rw [hi] at h; simp at h; exact ⟨i, rfl, h.1, h.2.1, h.2.2⟩
/-- append of a string. -/
theorem app_str {ops : Array Oper} {rest : List Oper} {o : Oper} {a : Act} {w : World} {Q : Exit → Act → World → Prop} (hgd : o.guard = none) (s y : Operand)
  (ho : o.op = .call { callee := .builtin .append, args := #[s, y], argTypes := #[22, 22] })
  {b G cap : Nat} {T : Nat → Prop} {l : List ByteArray} {x : ByteArray} {v : Value} (hs : a.eval s = v) (hy : a.eval y = .slice (some ⟨G, 0, none⟩) 1 cap) (hO : OwnL StrE 9 1 w b T l v)
  (hG : w.heap[G]? = some (.cells #[.string x] 9 (0, 0))) (hT : ∀ g, T g → g < w.heap.size) (hb : b ≤ w.heap.size) (hl : l.length ≤ 100000)
  (h : ∀ v' w' fl, (∀ x ∈ fl, T x) → Keeps fl w w' → OwnL StrE 9 1 w' b (fun g => T g ∨ (w.heap.size ≤ g ∧ g < w'.heap.size)) (l ++ [x]) v' → wpList Tryz.prog ops Q rest (a.put o.dst v') w') : wpList Tryz.prog ops Q (o :: rest) a w := by
 obtain ⟨i, hi, hz, hsz, hby⟩ := info9
 exact wpList_appL strL hgd s y 22 ho Tryz.underlying22 hi hz hsz hby rfl (by decide) (by decide) hs hy hO (S := fun _ => False) (c := [.string x]) hG rfl (fun _ h => h.elim) (fun _ h => h.elim) hT hb hl
  fun v' w' fl h1 h2 h3 => h v' w' fl h1 h2 (h3.to strL fun g hg => hg.elim .inl fun hg => hg.elim (fun h => h.elim) .inr)

/-! ### functions, rules -/
def FuncV (w : World) (S : Nat → Prop) (f : FuncP) (v : Value) : Prop :=
 ∃ pa pc b0 b1 b2 b3 b4, v = .agg #[.string f.name, .slice pa f.params.length pc, b0, b1, b2, b3, b4, .complex .f64 f.re f.im] ∧ SliceR StrE w S f.params (.slice pa f.params.length pc) ∧ NodeR w S f.body (.agg #[b0, b1, b2, b3, b4])
def FuncE (w : World) (S : Nat → Prop) (f : FuncP) (c : List Value) : Prop :=
 ∃ pa pc b0 b1 b2 b3 b4, c = [.string f.name, .slice pa f.params.length pc, b0, b1, b2, b3, b4, .complex .f64 f.re f.im] ∧ SliceR StrE w S f.params (.slice pa f.params.length pc) ∧ NodeR w S f.body (.agg #[b0, b1, b2, b3, b4])
theorem node_one {w : World} {S : Nat → Prop} {n : Node} {b0 b1 b2 b3 b4 : Value} (h : NodeR w S n (.agg #[b0, b1, b2, b3, b4])) : ∀ u ∈ [b0, b1, b2, b3, b4], u.oneCell' = true := nodeL.one (S := S) (a := n) (w := w) ⟨rfl, h⟩
theorem funcL : ElemL FuncE 8 := {
 keep := fun ⟨pa, pc, b0, b1, b2, b3, b4, h, hp, hn⟩ hk hf hS => ⟨pa, pc, b0, b1, b2, b3, b4, h, (hp.kp strL hk hf).to strL hS, hn.keep hk hf hS⟩
 len := fun ⟨_, _, _, _, _, _, _, h, _, _⟩ => by rw [h]; rfl
 one := fun ⟨_, _, _, _, _, _, _, h, _, hn⟩ u hu => by
  rw [h] at hu
  simp only [List.mem_cons, List.not_mem_nil, or_false] at hu
  rcases hu with rfl | rfl | h1 | h1 | h1 | h1 | h1 | rfl
  ·rfl
  ·rfl
  all_goals first | rfl | exact node_one hn u (by simp [h1])
 }
def RuleV (w : World) (S : Nat → Prop) (r : RuleP) (v : Value) : Prop :=
 ∃ pa pc b0 b1 b2 b3 b4, v = .agg #[.int .i64 r.kind, .int .i64 r.n, .slice pa r.pats.length pc, b0, b1, b2, b3, b4, .complex .f64 r.re r.im] ∧ KidsR w S r.pats (.slice pa r.pats.length pc) ∧ NodeR w S r.body (.agg #[b0, b1, b2, b3, b4])
def RuleE (w : World) (S : Nat → Prop) (r : RuleP) (c : List Value) : Prop :=
 ∃ pa pc b0 b1 b2 b3 b4, c = [.int .i64 r.kind, .int .i64 r.n, .slice pa r.pats.length pc, b0, b1, b2, b3, b4, .complex .f64 r.re r.im] ∧ KidsR w S r.pats (.slice pa r.pats.length pc) ∧ NodeR w S r.body (.agg #[b0, b1, b2, b3, b4])
theorem ruleL : ElemL RuleE 9 := {
 keep := fun ⟨pa, pc, b0, b1, b2, b3, b4, h, hp, hn⟩ hk hf hS => ⟨pa, pc, b0, b1, b2, b3, b4, h, hp.keep hk hf hS, hn.keep hk hf hS⟩
 len := fun ⟨_, _, _, _, _, _, _, h, _, _⟩ => by rw [h]; rfl
 one := fun ⟨_, _, _, _, _, _, _, h, _, hn⟩ u hu => by
  rw [h] at hu
  simp only [List.mem_cons, List.not_mem_nil, or_false] at hu
  rcases hu with rfl | rfl | rfl | h1 | h1 | h1 | h1 | h1 | rfl
  ·rfl
  ·rfl
  ·rfl
  all_goals first | rfl | exact node_one hn u (by simp [h1])
 }
theorem FuncV.kp {w w' : World} {S : Nat → Prop} {fp : List Nat} {f : FuncP} {v : Value} (h : FuncV w S f v) (hk : Keeps fp w w') (hf : ∀ x ∈ fp, ¬ S x) : FuncV w' S f v := by
 obtain ⟨pa, pc, b0, b1, b2, b3, b4, h, hp, hn⟩ := h
 exact ⟨pa, pc, b0, b1, b2, b3, b4, h, hp.kp strL hk hf, hn.kp hk hf⟩
theorem FuncV.to {w : World} {S T : Nat → Prop} {f : FuncP} {v : Value} (h : FuncV w S f v) (hT : ∀ x, S x → T x) : FuncV w T f v := by
 obtain ⟨pa, pc, b0, b1, b2, b3, b4, h, hp, hn⟩ := h
 exact ⟨pa, pc, b0, b1, b2, b3, b4, h, hp.to strL hT, hn.to hT⟩
theorem RuleV.kp {w w' : World} {S : Nat → Prop} {fp : List Nat} {f : RuleP} {v : Value} (h : RuleV w S f v) (hk : Keeps fp w w') (hf : ∀ x ∈ fp, ¬ S x) : RuleV w' S f v := by
 obtain ⟨pa, pc, b0, b1, b2, b3, b4, h, hp, hn⟩ := h
 exact ⟨pa, pc, b0, b1, b2, b3, b4, h, hp.kp hk hf, hn.kp hk hf⟩
theorem RuleV.to {w : World} {S T : Nat → Prop} {f : RuleP} {v : Value} (h : RuleV w S f v) (hT : ∀ x, S x → T x) : RuleV w T f v := by
 obtain ⟨pa, pc, b0, b1, b2, b3, b4, h, hp, hn⟩ := h
 exact ⟨pa, pc, b0, b1, b2, b3, b4, h, hp.to hT, hn.to hT⟩
theorem KidsR.shape {w : World} {S : Nat → Prop} {ns : List Node} {v : Value} (h : KidsR w S ns v) : ∃ a cap, v = .slice a ns.length cap := by
 cases h with
 | nil => exact ⟨_, _, rfl⟩
 | some hS hg h => exact ⟨_, _, rfl⟩
theorem SliceR.seg {α : Type} {E : World → (Nat → Prop) → α → List Value → Prop} {size : Nat} (_ : ElemL E size) (hs : ∀ {w : World} {S : Nat → Prop} {a : α} {c : List Value}, E w S a c → E w (fun g => S g ∧ g < w.heap.size) a c) {w : World} {S : Nat → Prop} {l : List α} {v : Value} (h : SliceR E w S l v) : SliceR E w (fun g => S g ∧ g < w.heap.size) l v := by
 obtain ⟨a, cap, rfl, hcap, h⟩ := h
 refine ⟨a, cap, rfl, hcap, fun h0 => ?_⟩
 obtain ⟨g, o, xs, rfl, hS, hg, hx, hc⟩ := h h0
 exact ⟨g, o, xs, rfl, ⟨hS, hg⟩, hg, hx.mono fun a c h => hs h, hc⟩
theorem FuncV.seg {w : World} {a : Nat} {f : FuncP} {v : Value} (h : FuncV w (fun g => a ≤ g) f v) : FuncV w (Seg a w.heap.size) f v := by
 obtain ⟨pa, pc, b0, b1, b2, b3, b4, h, hp, hn⟩ := h
 exact ⟨pa, pc, b0, b1, b2, b3, b4, h, hp.seg strL (fun h => h), hn.seg⟩
theorem RuleV.seg {w : World} {a : Nat} {f : RuleP} {v : Value} (h : RuleV w (fun g => a ≤ g) f v) : RuleV w (Seg a w.heap.size) f v := by
 obtain ⟨pa, pc, b0, b1, b2, b3, b4, h, hp, hn⟩ := h
 exact ⟨pa, pc, b0, b1, b2, b3, b4, h, hp.seg, hn.seg⟩

/-- The world at a step of a region that draws. -/
theorem step_at {P : Program} {ops : Array Oper} {o : Oper} {a : Act} {K : Act → World → Prop} {Q : Exit → Act → World → Prop} {Z : Prop} {W : World} (F : World → Prop) (hF : F W)
  (h : ∀ W', F W' → if Region.wanted o (yielded ops a.tmps) = true then Oper.wp P o a W' K Q else Z) : if Region.wanted o (yielded ops a.tmps) = true then Oper.wp P o a W K Q else Z := h W hF
end Go.Proofs.YtkfillfkbhbbjaaGreatDoor
