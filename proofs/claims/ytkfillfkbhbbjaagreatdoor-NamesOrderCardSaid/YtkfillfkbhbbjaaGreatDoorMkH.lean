/- Own, MkG, MkH. -/
import Derived.Test.YtkfillfkbhbbjaaGreatDoorLevelsI
import Derived.Deep.AppendLies
import Derived.Test.YtkfillfkbhbbjaaGreatDoorMkF
set_option maxRecDepth 100000
set_option maxHeartbeats 4000000
set_option linter.unusedSimpArgs false
set_option linter.unusedVariables false
namespace Go.Proofs.YtkfillfkbhbbjaaGreatDoor
open Go.RowKit
inductive Elems {α : Type} (E : α → List Value → Prop) : List α → List Value → Prop
 | nil : Elems E [] []
 | cons {a : α} {c : List Value} {l : List α} {xs : List Value} (h : E a c) (t : Elems E l xs) : Elems E (a :: l) (c ++ xs)
theorem Elems.mono {α : Type} {E E' : α → List Value → Prop} (h : ∀ a c, E a c → E' a c) {l : List α} {xs : List Value} (t : Elems E l xs) : Elems E' l xs := by
 induction t with
 | nil => exact .nil
 | cons h1 _ ih => exact .cons (h _ _ h1) ih
theorem Elems.snoc {α : Type} {E : α → List Value → Prop} {l : List α} {xs : List Value} {a : α} {c : List Value} (t : Elems E l xs) (h : E a c) : Elems E (l ++ [a]) (xs ++ c) := by
 induction t with
 | nil => simpa using Elems.cons h .nil
 | cons h1 _ ih => simpa using Elems.cons h1 ih
theorem Elems.len {α : Type} {E : α → List Value → Prop} {k : Nat} (h : ∀ a c, E a c → c.length = k) {l : List α} {xs : List Value} (t : Elems E l xs) : xs.length = l.length * k := by
 induction t with
 | nil => simp
 | cons h1 _ ih => simp [h _ _ h1, ih, Nat.add_mul, Nat.add_comm]
structure ElemL {α : Type} (E : World → (Nat → Prop) → α → List Value → Prop) (size : Nat) : Prop where
 keep : ∀ {w w' : World} {S S' : Nat → Prop} {fp : List Nat} {a : α} {c : List Value}, E w S a c → Keeps fp w w' → (∀ x ∈ fp, ¬ S x) → (∀ x, S x → S' x) → E w' S' a c
 len : ∀ {w : World} {S : Nat → Prop} {a : α} {c : List Value}, E w S a c → c.length = size
 one : ∀ {w : World} {S : Nat → Prop} {a : α} {c : List Value}, E w S a c → ∀ u ∈ c, u.oneCell' = true
def OwnL {α : Type} (E : World → (Nat → Prop) → α → List Value → Prop) (e : TypeId) (size : Nat) (w : World) (b : Nat) (T : Nat → Prop) (l : List α) (v : Value) : Prop :=
 ∃ xs, w.ownsRow b e size v l.length xs ∧ (∀ g, v.ownBlock = some g → T g) ∧ Elems (E w (fun g => T g ∧ v.ownBlock ≠ some g)) l xs
section
variable {α : Type} {E : World → (Nat → Prop) → α → List Value → Prop} {e : TypeId} {size : Nat}
theorem OwnL.nil {w : World} {b : Nat} {T : Nat → Prop} : OwnL E e size w b T [] (.slice none 0 0) := ⟨[], World.ownsRow_nil _ _ _ _, fun _ h => by simp [Value.ownBlock] at h, .nil⟩
theorem OwnL.kp (hE : ElemL E size) {w w' : World} {b : Nat} {T : Nat → Prop} {fp : List Nat} {l : List α} {v : Value} (h : OwnL E e size w b T l v) (hk : Keeps fp w w') (hf : ∀ x ∈ fp, ¬ T x) : OwnL E e size w' b T l v := by
 obtain ⟨xs, ho, ht, hx⟩ := h;refine ⟨xs, row_of_block ho fun g hg => ?_, ht, hx.mono fun a c h => hE.keep h hk (fun x hx hs => hf x hx hs.1) fun _ h => h⟩;obtain ⟨cur, hc⟩ := own_block ho hg;exact hk.block g (h_lt hc) fun hm => hf g hm (ht g hg)
theorem OwnL.to (hE : ElemL E size) {w : World} {b : Nat} {T T' : Nat → Prop} {l : List α} {v : Value} (h : OwnL E e size w b T l v) (hT : ∀ x, T x → T' x) : OwnL E e size w b T' l v := by
 obtain ⟨xs, ho, ht, hx⟩ := h;exact ⟨xs, ho, fun g hg => hT g (ht g hg), hx.mono fun a c h => hE.keep h (Keeps.refl [] w) jg fun x hx => ⟨hT x hx.1, hx.2⟩⟩
theorem OwnL.base {w : World} {b b' : Nat} {T : Nat → Prop} {l : List α} {v : Value} (h : OwnL E e size w b T l v) (hb : b' ≤ b) : OwnL E e size w b' T l v := by
 obtain ⟨xs, ho, ht, hx⟩ := h;exact ⟨xs, row_mono ho hb, ht, hx⟩
theorem OwnL.slice {w : World} {b : Nat} {T : Nat → Prop} {l : List α} {v : Value} (h : OwnL E e size w b T l v) : ∃ a cap, v = .slice a l.length cap ∧ (∀ x, a = some x → ∃ g, x = ⟨g, 0, none⟩ ∧ T g ∧ g < w.heap.size) := by
 obtain ⟨xs, ho, ht, hx⟩ := h
 rcases ho.2 with ⟨rfl, hn⟩ | ⟨g, cap, cur, rfl, hb, hg, _⟩
 ·exact ⟨none, 0, by rw [hn], fun _ h => by cases h⟩
 exact ⟨_, cap, rfl, fun x hx => ⟨g, by simpa using hx.symm, ht g rfl, h_lt hg⟩⟩
theorem OwnL.one (hE : ElemL E size) {w : World} {b : Nat} {T S : Nat → Prop} {x : α} {c : List Value} {G : Nat} (hG : w.heap[G]? = some (.cells c.toArray e (0, 0))) (hb : b ≤ G) (hT : T G) (hx : E w S x c) (hS : ∀ g, S g → T g ∧ g ≠ G) : OwnL E e size w b T [x] (.slice (some ⟨G, 0, none⟩) 1 1) := by
 have hl := hE.len hx;refine ⟨c, ⟨by simp [hl], .inr ⟨G, 1, c.toArray, rfl, hb, hG, Nat.le_refl _, by simp [maxLen], by simp [hl], ?_⟩⟩, fun g hg => ?_, ?_⟩
 ·rw [List.take_of_length_le (by simp [hl])]
 ·simp [Value.ownBlock] at hg; rw [← hg]; exact hT
 simpa using Elems.cons (hE.keep hx (Keeps.refl [] w) jg fun g hg => ⟨(hS g hg).1, fun h => (hS g hg).2 (by simpa [Value.ownBlock] using h.symm)⟩) .nil
theorem own_grown (hE : ElemL E size) {w w1 : World} {b g cap : Nat} {T S : Nat → Prop} {l : List α} {x : α} {v : Value} {c xs : List Value} (ho : w.ownsRow b e size v l.length xs) (ht : ∀ g, v.ownBlock = some g → T g) (hx : Elems (E w (fun g => T g ∧ v.ownBlock ≠ some g)) l xs) (hm : E w S x c) (hd : ∀ g, S g → ¬ T g) (hS : ∀ g, S g → g < w.heap.size) (hT : ∀ g, T g → g < w.heap.size) (hown : w1.ownsRow b e size (.slice (some ⟨g, 0, none⟩) (l.length + 1) cap) (l.length + 1) (xs ++ c)) (hgr : w.grownBy w1 v.ownBlock) (hat : v.ownBlock = some g ∨ g = w.heap.size) (hlt : g < w1.heap.size) : OwnL E e size w1 b (fun k => T k ∨ S k ∨ (w.heap.size ≤ k ∧ k < w1.heap.size)) (l ++ [x]) (.slice (some ⟨g, 0, none⟩) (l.length + 1) cap) ∧ ∃ fl : List Nat, (∀ y ∈ fl, T y) ∧ Keeps fl w w1 := by
 have hfl : ∀ y ∈ v.ownBlock.toList, T y := fun y hy => ht y (by simpa using hy)
 have hk : Keeps v.ownBlock.toList w w1 := Keeps.grown hgr fun k hk => .inl (by simp [hk])
 refine ⟨⟨xs ++ c, by simpa using hown, fun k hk => ?_, ?_⟩, _, hfl, hk⟩
 ·simp [Value.ownBlock] at hk;subst hk
  rcases hat with h | h
  ·exact .inl (ht _ h)
  exact .inr (.inr ⟨Nat.le_of_eq h.symm, hlt⟩)
 have h1 : Elems (E w1 (fun k => (T k ∨ S k ∨ (w.heap.size ≤ k ∧ k < w1.heap.size)) ∧ (Value.slice (some ⟨g, 0, none⟩) (l.length + 1) cap).ownBlock ≠ some k)) l xs :=
  hx.mono fun a c h => hE.keep h hk (fun y hy hs => hs.2 (by simpa using hy)) fun k hs => ⟨.inl hs.1, fun e1 => by
   simp [Value.ownBlock] at e1;subst e1
   rcases hat with h | h
   · exact hs.2 h
   · exact Nat.lt_irrefl _ (h ▸ hT _ hs.1)⟩
 refine h1.snoc (hE.keep hm hk (fun y hy hs => hd y hs (hfl y hy)) fun k hs => ⟨.inr (.inl hs), fun e1 => ?_⟩);simp [Value.ownBlock] at e1;subst e1
 rcases hat with h | h
 ·exact hd _ hs (ht _ h)
 exact Nat.lt_irrefl _ (h ▸ hS _ hs)
theorem wpList_appL {P : Program} (hE : ElemL E size) {ops : Array Oper} {rest : List Oper} {o : Oper} {a : Act} {w : World} {Q : Exit → Act → World → Prop} (hgd : o.guard = none) (s y : Operand) (t : TypeId) (ho : o.op = .call { callee := .builtin .append, args := #[s, y], argTypes := #[t, t] }) {i : TypeInfo} {z : Value} {bytes : Nat} (hu : P.underlying t = some (.slice e)) (hi : P.info? e = some i) (hz : i.zero = some z) (hsize : i.size = size) (hby : i.bytes = bytes) (hzs : z.cells.size = size) (hsz : 0 < size) (hbb : bytes ≤ 1000) {b G cap : Nat} {T S : Nat → Prop} {l : List α} {x : α} {v : Value} {c : List Value} (hs : a.eval s = v) (hy : a.eval y = .slice (some ⟨G, 0, none⟩) 1 cap) (hO : OwnL E e size w b T l v) (hG : w.heap[G]? = some (.cells c.toArray e (0, 0))) (hm : E w S x c) (hd : ∀ g, S g → ¬ T g) (hS : ∀ g, S g → g < w.heap.size) (hT : ∀ g, T g → g < w.heap.size) (hb : b ≤ w.heap.size) (hl : l.length ≤ 400000) (h : ∀ v' w' fl, (∀ x ∈ fl, T x) → Keeps fl w w' → OwnL E e size w' b (fun g => T g ∨ S g ∨ (w.heap.size ≤ g ∧ g < w'.heap.size)) (l ++ [x]) v' → wpList P ops Q rest (a.put o.dst v') w') : wpList P ops Q (o :: rest) a w := by
 obtain ⟨xs, hown, ht, hx⟩ := hO;have hlen := hE.len hm;refine wpList_append_lies w hgd s y t ho b e i z size bytes hu hi hz hsize hby hzs hsz v l.length xs hs hown ⟨G, 0, none⟩ 1 cap c hy (by simp [hlen]) (fun j u hj => ?_) (hE.one hm) qg qbb ?_ hb _ rfl fun g cp w1 h1 h2 h3 h4 => ?_
 ·have := cell_of_heap hG j;exact qmd
 ·exact jub
 obtain ⟨q1, fl, q2, q3⟩ := own_grown hE hown ht hx hm hd hS hT h1 h2 h3 h4;exact h _ _ fl q2 q3 q1
end
/-! ### nodes as elements -/
def NodeE (w : World) (S : Nat → Prop) (n : Node) (c : List Value) : Prop := c.length = 5 ∧ NodeR w S n (.agg c.toArray)
theorem nodeL : ElemL NodeE 5 := {
 keep := fun h hk hf hS => ⟨h.1, h.2.keep hk hf hS⟩
 len := fun h => h.1
 one := fun {w S a c} h u hu => by
  obtain ⟨tx, nm, k, l, cap, re, im, hv, -, -⟩ := h.2.shape;have hc : c = [.int .i64 a.kind, .string tx, .float .f64 nm, .slice k l cap, .complex .f64 re im] := by simpa using hv
  subst hc;simp at hu
  rcases hu with rfl | rfl | rfl | rfl | rfl <;> rfl
 }
theorem elems_row {w : World} {S : Nat → Prop} {g : Nat} {ns : List Node} {xs : List Value} (h : Elems (NodeE w S) ns xs) : ∀ o, (∀ j u, xs[j]? = some u → w.cell? ⟨g, o + j, none⟩ = some u) → RowR w S g o ns := by
 induction h with
 | nil => intro o _; exact .nil
 | cons hn _ ih =>
  intro o hc;obtain ⟨h5, hr⟩ := hn;rename_i c ns xs _
  obtain ⟨c0, c1, c2, c3, c4, rfl⟩ : ∃ c0 c1 c2 c3 c4, c = [c0, c1, c2, c3, c4] := by
   match c, h5 with
   | [c0, c1, c2, c3, c4], _ => exact ⟨_, _, _, _, _, rfl⟩
  refine .cons hr (by simpa using hc 0 c0 rfl) (hc 1 c1 rfl) (hc 2 c2 rfl) (hc 3 c3 rfl) (hc 4 c4 rfl) (ih _ fun j u hj => ?_);have := hc (5 + j) u (by rw [List.getElem?_append_right jg]; simpa using hj)
  rwa [← Nat.add_assoc] at this
theorem kids_of_own {w : World} {b : Nat} {T : Nat → Prop} {ns : List Node} {v : Value} (h : OwnL NodeE 50 5 w b T ns v) : KidsR w T ns v := by
 obtain ⟨xs, ho, ht, hx⟩ := h
 rcases ho.2 with ⟨rfl, hn⟩ | ⟨g, cap, cur, rfl, hb, hg, h1, h2, h3, h4⟩
 ·cases ns with
  | nil => exact .nil
  | cons n ns => simp at hn
 cases ns with
 | nil => exact .nil
 | cons n ns =>
  refine .some (ht g rfl) (h_lt hg) (elems_row (hx.mono fun a c h => nodeL.keep h (Keeps.refl [] w) jg fun _ h => h.1) 0 fun j u hj => ?_);rw [cell_of_heap hg, ← h4] at *
  rw [Nat.zero_add];have hj2 : (cur.toList.take ((n :: ns).length * 5))[j]? = some u := hj;exact zrd
theorem info50 : ∃ i, Tryz.prog.info? 50 = some i ∧ i.zero = some (.agg #[.int .i64 0, .string ⟨#[]⟩, .float .f64 0, .slice none 0 0, .complex .f64 0 0]) ∧ i.size = 5 ∧ i.bytes = 72 := by
 have h : (Tryz.prog.info? 50).map (fun i => (i.zero, i.size, i.bytes)) = some (some (.agg #[.int .i64 0, .string ⟨#[]⟩, .float .f64 0, .slice none 0 0, .complex .f64 0 0]), 5, 72) := by kernel_rfl
 cases hi : Tryz.prog.info? 50 with
 | none => rw [hi] at h; cases h
 | some i => rw [hi] at h; simp at h; exact ⟨i, rfl, h.1, h.2.1, h.2.2⟩
theorem app_node {ops : Array Oper} {rest : List Oper} {o : Oper} {a : Act} {w : World} {Q : Exit → Act → World → Prop} (hgd : o.guard = none) (s y : Operand) (ho : o.op = .call { callee := .builtin .append, args := #[s, y], argTypes := #[47, 47] }) {b G cap : Nat} {T S : Nat → Prop} {l : List Node} {x : Node} {v c0 c1 c2 c3 c4 : Value} (hs : a.eval s = v) (hy : a.eval y = .slice (some ⟨G, 0, none⟩) 1 cap) (hO : OwnL NodeE 50 5 w b T l v) (hG : w.heap[G]? = some (.cells #[c0, c1, c2, c3, c4] 50 (0, 0))) (hm : NodeR w S x (.agg #[c0, c1, c2, c3, c4])) (hd : ∀ g, S g → ¬ T g) (hS : ∀ g, S g → g < w.heap.size) (hT : ∀ g, T g → g < w.heap.size) (hb : b ≤ w.heap.size) (hl : l.length ≤ 400000) (h : ∀ v' w' fl, (∀ x ∈ fl, T x) → Keeps fl w w' → OwnL NodeE 50 5 w' b (fun g => T g ∨ S g ∨ (w.heap.size ≤ g ∧ g < w'.heap.size)) (l ++ [x]) v' → wpList Tryz.prog ops Q rest (a.put o.dst v') w') : wpList Tryz.prog ops Q (o :: rest) a w := by
 obtain ⟨i, hi, hz, hsz, hby⟩ := info50;exact wpList_appL nodeL hgd s y 47 ho Tryz.underlying47 hi hz hsz hby rfl zi zi hs hy hO (c := [c0, c1, c2, c3, c4]) hG ⟨rfl, hm⟩ hd hS hT hb hl h
mutual
theorem NodeR.bound {w : World} {S : Nat → Prop} {n : Node} {v : Value} (h : NodeR w S n v) : NodeR w (fun g => S g ∧ g < w.heap.size) n v := by
 cases h with
 | mk h => exact .mk (KidsR.bound h)
theorem KidsR.bound {w : World} {S : Nat → Prop} {ns : List Node} {v : Value} (h : KidsR w S ns v) : KidsR w (fun g => S g ∧ g < w.heap.size) ns v := by
 cases h with
 | nil => exact .nil
 | some hS hg h => exact .some ⟨hS, hg⟩ hg (RowR.bound h)
theorem RowR.bound {w : World} {S : Nat → Prop} {g o : Nat} {ns : List Node} (h : RowR w S g o ns) : RowR w (fun g => S g ∧ g < w.heap.size) g o ns := by
 cases h with
 | nil => exact .nil
 | cons hn h0 h1 h2 h3 h4 hr => exact .cons (NodeR.bound hn) h0 h1 h2 h3 h4 (RowR.bound hr)
end
theorem wfK_snoc : ∀ {l : List Node} {n : Node}, wfK l → wfN n → wfK (l ++ [n])
 | [], _, _, h => ⟨h, trivial⟩
 | _ :: l, _, h, k => ⟨h.1, wfK_snoc h.2 k⟩
theorem ksize_snoc : ∀ (l : List Node) (n : Node), ksize (l ++ [n]) = ksize l + nsize n
 | [], n => by simp [ksize]
 | k :: l, n => by rw [List.cons_append, ksize, ksize, ksize_snoc l n]; omega
def Ow (b e Z m : Nat) (W : World) (v : Value) : Prop := ∃ ns, ns.length = m ∧ OwnL NodeE 50 5 W b (fun g => b ≤ g ∧ g < e) ns v ∧ wfK ns ∧ ksize ns ≤ Z
theorem Ow.nil (b e : Nat) (W : World) : Ow b e 0 0 W (.slice none 0 0) := ⟨[], rfl, .nil, trivial, Nat.le_refl _⟩
theorem Ow.step {b e Z m : Nat} {W W' : World} {v : Value} {fp : List Nat} (h : Ow b e Z m W v) (hk : Keeps fp W W') (hf : ∀ x ∈ fp, x < b ∨ e ≤ x) : Ow b e Z m W' v := by
 obtain ⟨ns, h1, h2, h3⟩ := h;exact ⟨ns, h1, h2.kp nodeL hk (fun x hx ht => by have := hf x hx; omega), h3⟩
theorem Ow.to {b e e' Z Z' m : Nat} {W : World} {v : Value} (h : Ow b e Z m W v) (he : e ≤ e') (hZ : Z ≤ Z') : Ow b e' Z' m W v := by
 obtain ⟨ns, h1, h2, h3, h4⟩ := h;exact ⟨ns, h1, h2.to nodeL (fun x hx => ⟨hx.1, Nat.lt_of_lt_of_le hx.2 he⟩), h3, by omega⟩
theorem Ow.kids {b e Z m : Nat} {W : World} {v : Value} (h : Ow b e Z m W v) : Kd b Z W v := by
 obtain ⟨ns, -, h2, h3⟩ := h;exact ⟨ns, (kids_of_own h2).keep (Keeps.refl [] W) jg (fun x hx => hx.1), h3⟩
theorem Ow.slice {b e Z m : Nat} {W : World} {v : Value} (h : Ow b e Z m W v) : ∃ a c, v = .slice a m c := by
 obtain ⟨ns, h1, h2, -⟩ := h;obtain ⟨a, c, hv, -⟩ := h2.slice;exact ⟨a, c, by rw [hv, h1]⟩
theorem Ow.one {b Z : Nat} {W : World} {G : Nat} {a0 a1 a2 a3 a4 : Value} (h : W.heap[G]? = some (.cells #[a0, a1, a2, a3, a4] 50 (0, 0))) (hb : b ≤ G) (h1 : Nd b Z W (.agg #[a0, a1, a2, a3, a4])) (hG : ∀ n : Node, NodeR W (fun g => b ≤ g) n (.agg #[a0, a1, a2, a3, a4]) → NodeR W (fun g => (b ≤ g ∧ g < W.heap.size) ∧ g ≠ G) n (.agg #[a0, a1, a2, a3, a4])) : Ow b W.heap.size Z 1 W (.slice (some ⟨G, 0, none⟩) 1 1) := by
 obtain ⟨n, q1, q2, q3⟩ := h1;refine ⟨[n], rfl, OwnL.one nodeL (c := [a0, a1, a2, a3, a4]) h hb ⟨hb, h_lt h⟩ (S := fun g => (b ≤ g ∧ g < W.heap.size) ∧ g ≠ G) ⟨rfl, hG n q1⟩ (fun g hg => hg), ⟨q2, trivial⟩, ?_⟩;rw [ksize, ksize]; omega
theorem Nd.else {b : Nat} {W W' : World} {v : Value} {n : Node} (h : NodeR W (fun g => b ≤ g) n v) (hk : Keeps [] W W') : NodeR W' (fun g => (b ≤ g ∧ g < W'.heap.size) ∧ g ≠ W.heap.size) n v :=
 h.bound.keep hk jg fun x hx => ⟨⟨hx.1, Nat.lt_of_lt_of_le hx.2 hk.size⟩, Nat.ne_of_lt hx.2⟩
theorem Ow.one' {b Z : Nat} {W W' : World} {a0 a1 a2 a3 a4 : Value} (h1 : Nd b Z W (.agg #[a0, a1, a2, a3, a4])) (hb : b ≤ W.heap.size) (hk : Keeps [] W W') (h : W'.heap[W.heap.size]? = some (.cells #[a0, a1, a2, a3, a4] 50 (0, 0))) : Ow b W'.heap.size Z 1 W' (.slice (some ⟨W.heap.size, 0, none⟩) 1 1) := by
 obtain ⟨n, q1, q2, q3⟩ := h1;refine ⟨[n], rfl, OwnL.one nodeL (c := [a0, a1, a2, a3, a4]) h hb ⟨hb, h_lt h⟩ (S := fun g => (b ≤ g ∧ g < W'.heap.size) ∧ g ≠ W.heap.size) ⟨rfl, Nd.else q1 hk⟩ (fun g hg => hg), ⟨q2, trivial⟩, ?_⟩;rw [ksize, ksize]; omega
theorem app_ow {ops : Array Oper} {rest : List Oper} {o : Oper} {a : Act} {V : World} {Q : Exit → Act → World → Prop} (hgd : o.guard = none) (s y : Operand) (ho : o.op = .call { callee := .builtin .append, args := #[s, y], argTypes := #[47, 47] }) {b e e1 Z Z1 m G cap : Nat} {v c0 c1 c2 c3 c4 : Value} (hs : a.eval s = v) (hy : a.eval y = .slice (some ⟨G, 0, none⟩) 1 cap) (hO : Ow b e Z m V v) (hG : V.heap[G]? = some (.cells #[c0, c1, c2, c3, c4] 50 (0, 0))) (hn : Nd e1 Z1 V (.agg #[c0, c1, c2, c3, c4])) (he : e ≤ e1) (heV : e ≤ V.heap.size) (hb : b ≤ e) (hm : m ≤ 100000) (h : ∀ v' w' fl, (∀ x ∈ fl, b ≤ x ∧ x < e) → Keeps fl V w' → Ow b w'.heap.size (Z + Z1) (m + 1) w' v' → wpList Tryz.prog ops Q rest (a.put o.dst v') w') : wpList Tryz.prog ops Q (o :: rest) a V := by
 obtain ⟨ns, q1, q2, q3, q4⟩ := hO;obtain ⟨n, p1, p2, p3⟩ := hn;refine app_node hgd s y ho hs hy q2 hG p1.bound (fun g h1 h2 => by omega) (fun g h => h.2) (fun g h => by omega) qg qg fun v' w' fl hfl hk hw => h v' w' fl hfl hk ⟨ns ++ [n], by simp [q1], hw.to nodeL fun x hx => ?_, wfK_snoc q3 p2, ?_⟩
 ·have := hk.size
  rcases hx with hx | hx | hx <;> omega
 rw [ksize_snoc]; omega
theorem BnR.kpF {M : MKey} {I : Nat} {fn : Bool} {w W W' : World} {fl : List Nat} (h : BnR M I fn w W) (hk : Keeps fl W W') (hf : ∀ x ∈ fl, w.heap.size + 1 ≤ x) : BnR M I fn w W' := by
 have h1 := h.lt;have h2 := h.fix.hk;exact ⟨⟨h.fix, h.lt, h.mak.kp h.fix hk (fun hm => by have := hf _ hm; omega) (fun x hx => by have := hf x hx; omega), h.keep.trans hk (fun x hx => .inr (by have := hf x hx; omega))⟩, hk.at h.res (fun hm => by have := hf _ hm; omega)⟩
def ExprC (M : MKey) (fn : Bool) (d : Int) (Z K : Nat) : Prop := ∀ (I : Nat) (w : World), Bn M I fn w w → I + K ≤ 1000000000000 → Calls Tryz.prog 30 #[.pointer (some ⟨M.k, 0, none⟩), .int .i64 d] w fun r w' => NodeP M Z K I fn w r w'
def LvalC (M : MKey) (fn : Bool) (d : Int) (Z K : Nat) : Prop := ∀ (I : Nat) (w : World), Bn M I fn w w → I + K ≤ 1000000000000 → Calls Tryz.prog 54 #[.pointer (some ⟨M.k, 0, none⟩), .int .i64 d] w fun r w' => NodeP M Z K I fn w r w'
def BuiltC (M : MKey) (fn : Bool) (d : Int) (Z K : Nat) : Prop := ∀ (I : Nat) (w : World), Bn M I fn w w → I + K ≤ 1000000000000 → Calls Tryz.prog 57 #[.pointer (some ⟨M.k, 0, none⟩), .int .i64 d] w fun r w' => NodeP M Z K I fn w r w'
set_option maxHeartbeats 8000000 in
theorem lval_any {M : MKey} {I : Nat} {fn : Bool} {w : World} (h : Bn M I fn w w) {d : Int} (hd : -1000 ≤ d ∧ d ≤ 1000) {Z K : Nat} (hE : ExprC M fn (d - 1) Z K) (hI : I + (K + 10) ≤ 1000000000000) : Calls Tryz.prog 54 #[.pointer (some ⟨M.k, 0, none⟩), .int .i64 d] w fun r w' => NodeP M (Z + 3) (K + 10) I fn w r w' := by
 have H0 := zh h;clear h
 go_enter Tryz.func54, Tryz.ntmps54
 have H_lt := zh H0.out.lt;have HX := zh hE;clear hE
 go_wp2_with fail
 refine zrb ?_;rintro w1 ⟨hk, hr⟩;have HB1 := zh (BnR.start H0.out hk hr);clear hk hr H0
 go_wp2_with fail
 refine (one_int HB1.out.fix HB1.out.mak qg 6 qg qg).mono ?_;rintro r w1_ ⟨z, h0_z, h1_z, rfl, hm, hk⟩;have HB2 := zh (HB1.out.call hm hk);clear hk hm HB1;have hz : z = 0 ∨ z = 1 ∨ z = 2 ∨ z = 3 ∨ z = 4 ∨ z = 5 := by omega
 clear h0_z h1_z
 rcases hz with rfl | rfl | rfl | rfl | rfl | rfl
 ·go_wp2_with fail
  refine (HX.out _ _ HB2.out.here qg).mono ?_;rintro r w3_ ⟨v, rfl, hn, hm, hk⟩;obtain ⟨k3, nm3, nu3, a3, l3, c3, re3, im3, rfl⟩ := hn.shape;have HB4 := zh (HB2.out.call hm hk);have HN3 := zh (HB2.out.node hn);clear hn;clear hk hm HB2
  go_wp2_with fail
  refine qub ?_;rintro w5_ ⟨hk, hr⟩;have HO5 := zh (Ow.one' HN3.out HB4.out.b hk hr);have HE5 := zh (Nat.le_refl w5_.heap.size);clear hr;have HB6 := zh (HB4.out.kp hk);clear hk HB4 HN3;have H_b : Hid (w.heap.size + 1 ≤ w5_.heap.size) := zh HB6.out.b
  go_wp2_with fail
  refine (one_int HB6.out.fix HB6.out.mak qg 5 qg qg).mono ?_;rintro r w7_ ⟨y, h0_y, h1_y, rfl, hm, hk⟩;have HO8 := zh (HO5.out.step hk zo);have HE8 := zh (Nat.le_trans HE5.out hk.size);have HB9 := zh (HB6.out.call hm hk);clear hk hm HB6 HO5 HE5;clear h0_y h1_y
  by_cases hy0 : y = 0
  ·subst hy0
   go_wp2_with fail
   refine (leaf_any HB9.out.here qg).mono ?_;rintro r w10_ ⟨v, rfl, hn, hm, hk⟩;obtain ⟨k10, nm10, nu10, a10, l10, c10, re10, im10, rfl⟩ := hn.shape;have HEE10 := HE8;have HS10 := zh hn;clear hn;have HO11 := zh (HO8.out.step hk zo);have HE11 := zh (Nat.le_trans HE8.out hk.size);have HB12 := zh (HB9.out.call hm hk);clear hk hm HB9 HO8 HE8
   go_wp2_with (
    at_builtin
    go_loud (
     refine list_at (fun V => Keeps [] w10_ V ∧ V.heap[w10_.heap.size]? = some (.cells #[.int .i64 k10, .string nm10, .float .f64 nu10, .slice a10 l10 c10, .complex .f64 re10 im10] 50 (0, 0))) ⟨zg, ja⟩ ?_;rintro w13_ ⟨hk, hr⟩;have HS13 := zh (HS10.out.step hk jg);have hcc := hr;have HO14 := zh (HO11.out.step hk jg);have HE14 := zh (Nat.le_trans HE11.out hk.size);have HB15 := zh (HB12.out.kp hk);clear hk HB12 HO11 HE11 HS10;refine app_ow rfl (.tmp 19) (.tmp 22) rfl rfl rfl HO14.out hcc HS13.out HEE10.out HE14.out (by have := h_lt HB15.out.res; have := H_b.out; omega) qg ?_))
   intro va w16_ fl hfl hk hown;obtain ⟨aa16, cc16, rfl⟩ := hown.slice;have HB16 := zh (HB15.out.kpF hk (fun x hx => (hfl x hx).1));have HK16 := zh hown.kids;clear hk hfl hown hcc HS13 HEE10 HB15 HO14 HE14
   go_wp2_with fail
   refine (array_any HB16.out.here qg).mono ?_;rintro r w17_ ⟨s17, rfl, hm, hk⟩;have HB18 := zh (HB16.out.call hm hk);have HK18 := zh (HB16.out.kd hk HK16.out);clear hk hm HB16 HK16
   go_wp2_with fail
   refine jrb ?_;rintro r w19_ ⟨rfl, hk⟩;have HB20 := zh (HB18.out.kp hk);have HK20 := zh (HK18.out.step hk jg);clear hk HB18 HK18;have HH19 : Hid (Nd (w.heap.size + 1) _ w19_ (.agg #[.int .i64 5, .string s17, .float .f64 0, .slice aa16 2 cc16, .complex .f64 0 0])) := zh (HK20.out.mk zi);clear HK20;obtain ⟨l_R, xR_0, xR_1, xR_2, xR_3, xR_4, yR_0, yR_1, yR_2, yR_3, yR_4⟩ := cf5 HB20.out.res
   go_wp2_with fail
   refine ret_at (v := .agg #[.int .i64 5, .string s17, .float .f64 0, .slice aa16 2 cc16, .complex .f64 0 0]) (fun U => Keeps [w.heap.size] w19_ U ∧ U.heap[w.heap.size]? = some (.cells #[.int .i64 5, .string s17, .float .f64 0, .slice aa16 2 cc16, .complex .f64 0 0] 50 (0, 0))) ⟨zg, (za HB20.out.res)⟩ (fun U hU => ?_) rfl (fun U hU => ?_)
   ·obtain ⟨-, x0, x1, x2, x3, x4, -⟩ := cf5 hU.2;exact qpb
   exact HB20.out.fin HH19.out hU.1 qg qg
  have hy : (y == 0) = false := beq_false_of_ne hy0;have HK9 := zh HO8.out.kids;clear HO8 HE8
  go_wp2_with fail
  refine (array_any HB9.out.here qg).mono ?_;rintro r w21_ ⟨s21, rfl, hm, hk⟩;have HB22 := zh (HB9.out.call hm hk);have HK22 := zh (HB9.out.kd hk HK9.out);clear hk hm HB9 HK9
  go_wp2_with fail
  refine jrb ?_;rintro r w23_ ⟨rfl, hk⟩;have HB24 := zh (HB22.out.kp hk);have HK24 := zh (HK22.out.step hk jg);clear hk HB22 HK22;have HH23 : Hid (Nd (w.heap.size + 1) _ w23_ (.agg #[.int .i64 5, .string s21, .float .f64 0, .slice (some ⟨w3_.heap.size, 0, none⟩) 1 1, .complex .f64 0 0])) := zh (HK24.out.mk zi);clear HK24;obtain ⟨l_R, xR_0, xR_1, xR_2, xR_3, xR_4, yR_0, yR_1, yR_2, yR_3, yR_4⟩ := cf5 HB24.out.res
  go_wp2_with fail
  refine ret_at (v := .agg #[.int .i64 5, .string s21, .float .f64 0, .slice (some ⟨w3_.heap.size, 0, none⟩) 1 1, .complex .f64 0 0]) (fun U => Keeps [w.heap.size] w23_ U ∧ U.heap[w.heap.size]? = some (.cells #[.int .i64 5, .string s21, .float .f64 0, .slice (some ⟨w3_.heap.size, 0, none⟩) 1 1, .complex .f64 0 0] 50 (0, 0))) ⟨zg, (za HB24.out.res)⟩ (fun U hU => ?_) rfl (fun U hU => ?_)
  ·obtain ⟨-, x0, x1, x2, x3, x4, -⟩ := cf5 hU.2;exact qpb
  exact HB24.out.fin HH23.out hU.1 qg qg
 ·go_wp2_with fail
  refine (HX.out _ _ HB2.out.here qg).mono ?_;rintro r w25_ ⟨v, rfl, hn, hm, hk⟩;obtain ⟨k25, nm25, nu25, a25, l25, c25, re25, im25, rfl⟩ := hn.shape;have HB26 := zh (HB2.out.call hm hk);have HN25 := zh (HB2.out.node hn);clear hn;clear hk hm HB2
  go_wp2_with fail
  refine calls_at (fun V => Keeps [] w25_ V ∧ V.heap[w25_.heap.size]? = some (.cells #[.int .i64 k25, .string nm25, .float .f64 nu25, .slice a25 l25 c25, .complex .f64 re25 im25] 50 (0, 0))) ⟨zg, ja⟩ ?_;rintro w27_ ⟨hk, hr⟩;have HO27 := zh (Ow.one' HN25.out HB26.out.b hk hr);have HE27 := zh (Nat.le_refl w27_.heap.size);clear hr;have HB28 := zh (HB26.out.kp hk);clear hk HB26 HN25;have H_b : Hid (w.heap.size + 1 ≤ w27_.heap.size) := zh HB28.out.b
  go_wp2_with fail
  refine (one_int HB28.out.fix HB28.out.mak qg 5 qg qg).mono ?_;rintro r w29_ ⟨y, h0_y, h1_y, rfl, hm, hk⟩;have HO30 := zh (HO27.out.step hk zo);have HE30 := zh (Nat.le_trans HE27.out hk.size);have HB31 := zh (HB28.out.call hm hk);clear hk hm HB28 HO27 HE27;clear h0_y h1_y
  by_cases hy0 : y = 0
  ·subst hy0
   go_wp2_with fail
   refine (leaf_any HB31.out.here qg).mono ?_;rintro r w32_ ⟨v, rfl, hn, hm, hk⟩;obtain ⟨k32, nm32, nu32, a32, l32, c32, re32, im32, rfl⟩ := hn.shape;have HEE32 := HE30;have HS32 := zh hn;clear hn;have HO33 := zh (HO30.out.step hk zo);have HE33 := zh (Nat.le_trans HE30.out hk.size);have HB34 := zh (HB31.out.call hm hk);clear hk hm HB31 HO30 HE30
   go_wp2_with (
    at_builtin
    go_loud (
     refine list_at (fun V => Keeps [] w32_ V ∧ V.heap[w32_.heap.size]? = some (.cells #[.int .i64 k32, .string nm32, .float .f64 nu32, .slice a32 l32 c32, .complex .f64 re32 im32] 50 (0, 0))) ⟨zg, ja⟩ ?_;rintro w35_ ⟨hk, hr⟩;have HS35 := zh (HS32.out.step hk jg);have hcc := hr;have HO36 := zh (HO33.out.step hk jg);have HE36 := zh (Nat.le_trans HE33.out hk.size);have HB37 := zh (HB34.out.kp hk);clear hk HB34 HO33 HE33 HS32;refine app_ow rfl (.tmp 19) (.tmp 22) rfl rfl rfl HO36.out hcc HS35.out HEE32.out HE36.out (by have := h_lt HB37.out.res; have := H_b.out; omega) qg ?_))
   intro va w38_ fl hfl hk hown;obtain ⟨aa38, cc38, rfl⟩ := hown.slice;have HB38 := zh (HB37.out.kpF hk (fun x hx => (hfl x hx).1));have HK38 := zh hown.kids;clear hk hfl hown hcc HS35 HEE32 HB37 HO36 HE36
   go_wp2_with fail
   refine (array_any HB38.out.here qg).mono ?_;rintro r w39_ ⟨s39, rfl, hm, hk⟩;have HB40 := zh (HB38.out.call hm hk);have HK40 := zh (HB38.out.kd hk HK38.out);clear hk hm HB38 HK38
   go_wp2_with fail
   refine jrb ?_;rintro r w41_ ⟨rfl, hk⟩;have HB42 := zh (HB40.out.kp hk);have HK42 := zh (HK40.out.step hk jg);clear hk HB40 HK40;have HH41 : Hid (Nd (w.heap.size + 1) _ w41_ (.agg #[.int .i64 5, .string s39, .float .f64 0, .slice aa38 2 cc38, .complex .f64 0 0])) := zh (HK42.out.mk zi);clear HK42;obtain ⟨l_R, xR_0, xR_1, xR_2, xR_3, xR_4, yR_0, yR_1, yR_2, yR_3, yR_4⟩ := cf5 HB42.out.res
   go_wp2_with fail
   refine ret_at (v := .agg #[.int .i64 5, .string s39, .float .f64 0, .slice aa38 2 cc38, .complex .f64 0 0]) (fun U => Keeps [w.heap.size] w41_ U ∧ U.heap[w.heap.size]? = some (.cells #[.int .i64 5, .string s39, .float .f64 0, .slice aa38 2 cc38, .complex .f64 0 0] 50 (0, 0))) ⟨zg, (za HB42.out.res)⟩ (fun U hU => ?_) rfl (fun U hU => ?_)
   ·obtain ⟨-, x0, x1, x2, x3, x4, -⟩ := cf5 hU.2;exact qpb
   exact HB42.out.fin HH41.out hU.1 qg qg
  have hy : (y == 0) = false := beq_false_of_ne hy0;have HK9 := zh HO30.out.kids;clear HO30 HE30
  go_wp2_with fail
  refine (array_any HB31.out.here qg).mono ?_;rintro r w43_ ⟨s43, rfl, hm, hk⟩;have HB44 := zh (HB31.out.call hm hk);have HK44 := zh (HB31.out.kd hk HK9.out);clear hk hm HB31 HK9
  go_wp2_with fail
  refine jrb ?_;rintro r w45_ ⟨rfl, hk⟩;have HB46 := zh (HB44.out.kp hk);have HK46 := zh (HK44.out.step hk jg);clear hk HB44 HK44;have HH45 : Hid (Nd (w.heap.size + 1) _ w45_ (.agg #[.int .i64 5, .string s43, .float .f64 0, .slice (some ⟨w25_.heap.size, 0, none⟩) 1 1, .complex .f64 0 0])) := zh (HK46.out.mk zi);clear HK46;obtain ⟨l_R, xR_0, xR_1, xR_2, xR_3, xR_4, yR_0, yR_1, yR_2, yR_3, yR_4⟩ := cf5 HB46.out.res
  go_wp2_with fail
  refine ret_at (v := .agg #[.int .i64 5, .string s43, .float .f64 0, .slice (some ⟨w25_.heap.size, 0, none⟩) 1 1, .complex .f64 0 0]) (fun U => Keeps [w.heap.size] w45_ U ∧ U.heap[w.heap.size]? = some (.cells #[.int .i64 5, .string s43, .float .f64 0, .slice (some ⟨w25_.heap.size, 0, none⟩) 1 1, .complex .f64 0 0] 50 (0, 0))) ⟨zg, (za HB46.out.res)⟩ (fun U hU => ?_) rfl (fun U hU => ?_)
  ·obtain ⟨-, x0, x1, x2, x3, x4, -⟩ := cf5 hU.2;exact qpb
  exact HB46.out.fin HH45.out hU.1 qg qg
 ·go_wp2_with fail
  refine (leaf_any HB2.out.here qg).mono ?_;rintro r w47_ ⟨v, rfl, hn, hm, hk⟩;obtain ⟨k47, nm47, nu47, a47, l47, c47, re47, im47, rfl⟩ := hn.shape;have HB48 := zh (HB2.out.call hm hk);have HN47 := zh (HB2.out.node hn);clear hn;clear hk hm HB2
  go_wp2_with fail
  refine zvb ?_;rintro w49_ ⟨hk, hr⟩;have HB50 := zh (HB48.out.kp hk);have HN50_n47 := zh (HN47.out.step hk jg);have HK49 := zh (Kd.row1 hr HB48.out.b HN50_n47.out);clear hr;clear hk HB48 HN47;clear HN50_n47;refine jrb ?_;rintro r w51_ ⟨rfl, hk⟩;have HB52 := zh (HB50.out.kp hk);have HK52 := zh (HK49.out.step hk jg);clear hk HB50 HK49;have HH51 : Hid (Nd (w.heap.size + 1) _ w51_ (.agg #[.int .i64 6, .string ⟨#[]⟩, .float .f64 0, .slice (some ⟨w47_.heap.size, 0, none⟩) 1 1, .complex .f64 0 0])) := zh (HK52.out.mk zi);clear HK52;obtain ⟨l_R, xR_0, xR_1, xR_2, xR_3, xR_4, yR_0, yR_1, yR_2, yR_3, yR_4⟩ := cf5 HB52.out.res
  go_wp2_with fail
  refine ret_at (v := .agg #[.int .i64 6, .string ⟨#[]⟩, .float .f64 0, .slice (some ⟨w47_.heap.size, 0, none⟩) 1 1, .complex .f64 0 0]) (fun U => Keeps [w.heap.size] w51_ U ∧ U.heap[w.heap.size]? = some (.cells #[.int .i64 6, .string ⟨#[]⟩, .float .f64 0, .slice (some ⟨w47_.heap.size, 0, none⟩) 1 1, .complex .f64 0 0] 50 (0, 0))) ⟨zg, (za HB52.out.res)⟩ (fun U hU => ?_) rfl (fun U hU => ?_)
  ·obtain ⟨-, x0, x1, x2, x3, x4, -⟩ := cf5 hU.2;exact qpb
  exact HB52.out.fin HH51.out hU.1 qg qg
 ·go_wp2_with fail
  refine (scalar_any HB2.out.here qg).mono ?_;rintro r w53_ ⟨s53, rfl, hm, hk⟩;have HB54 := zh (HB2.out.call hm hk);clear hk hm HB2
  go_wp2_with fail
  refine jrb ?_;rintro r w55_ ⟨rfl, hk⟩;have HB56 := zh (HB54.out.kp hk);clear hk HB54;have HH55 : Hid (Nd (w.heap.size + 1) 1 w55_ (.agg #[.int .i64 4, .string s53, .float .f64 0, .slice none 0 0, .complex .f64 0 0])) := zh (Nd.leaf _ _ _ _ _ _ _);obtain ⟨l_R, xR_0, xR_1, xR_2, xR_3, xR_4, yR_0, yR_1, yR_2, yR_3, yR_4⟩ := cf5 HB56.out.res
  go_wp2_with fail
  refine ret_at (v := .agg #[.int .i64 4, .string s53, .float .f64 0, .slice none 0 0, .complex .f64 0 0]) (fun U => Keeps [w.heap.size] w55_ U ∧ U.heap[w.heap.size]? = some (.cells #[.int .i64 4, .string s53, .float .f64 0, .slice none 0 0, .complex .f64 0 0] 50 (0, 0))) ⟨zg, (za HB56.out.res)⟩ (fun U hU => ?_) rfl (fun U hU => ?_)
  ·obtain ⟨-, x0, x1, x2, x3, x4, -⟩ := cf5 hU.2;exact qpb
  exact HB56.out.fin HH55.out hU.1 qg qg
 ·go_wp2_with fail
  refine (scalar_any HB2.out.here qg).mono ?_;rintro r w57_ ⟨s57, rfl, hm, hk⟩;have HB58 := zh (HB2.out.call hm hk);clear hk hm HB2
  go_wp2_with fail
  refine jrb ?_;rintro r w59_ ⟨rfl, hk⟩;have HB60 := zh (HB58.out.kp hk);clear hk HB58;have HH59 : Hid (Nd (w.heap.size + 1) 1 w59_ (.agg #[.int .i64 4, .string s57, .float .f64 0, .slice none 0 0, .complex .f64 0 0])) := zh (Nd.leaf _ _ _ _ _ _ _);obtain ⟨l_R, xR_0, xR_1, xR_2, xR_3, xR_4, yR_0, yR_1, yR_2, yR_3, yR_4⟩ := cf5 HB60.out.res
  go_wp2_with fail
  refine ret_at (v := .agg #[.int .i64 4, .string s57, .float .f64 0, .slice none 0 0, .complex .f64 0 0]) (fun U => Keeps [w.heap.size] w59_ U ∧ U.heap[w.heap.size]? = some (.cells #[.int .i64 4, .string s57, .float .f64 0, .slice none 0 0, .complex .f64 0 0] 50 (0, 0))) ⟨zg, (za HB60.out.res)⟩ (fun U hU => ?_) rfl (fun U hU => ?_)
  ·obtain ⟨-, x0, x1, x2, x3, x4, -⟩ := cf5 hU.2;exact qpb
  exact HB60.out.fin HH59.out hU.1 qg qg
 go_wp2_with fail
 refine (scalar_any HB2.out.here qg).mono ?_;rintro r w61_ ⟨s61, rfl, hm, hk⟩;have HB62 := zh (HB2.out.call hm hk);clear hk hm HB2
 go_wp2_with fail
 refine jrb ?_;rintro r w63_ ⟨rfl, hk⟩;have HB64 := zh (HB62.out.kp hk);clear hk HB62;have HH63 : Hid (Nd (w.heap.size + 1) 1 w63_ (.agg #[.int .i64 4, .string s61, .float .f64 0, .slice none 0 0, .complex .f64 0 0])) := zh (Nd.leaf _ _ _ _ _ _ _);obtain ⟨l_R, xR_0, xR_1, xR_2, xR_3, xR_4, yR_0, yR_1, yR_2, yR_3, yR_4⟩ := cf5 HB64.out.res
 go_wp2_with fail
 refine ret_at (v := .agg #[.int .i64 4, .string s61, .float .f64 0, .slice none 0 0, .complex .f64 0 0]) (fun U => Keeps [w.heap.size] w63_ U ∧ U.heap[w.heap.size]? = some (.cells #[.int .i64 4, .string s61, .float .f64 0, .slice none 0 0, .complex .f64 0 0] 50 (0, 0))) ⟨zg, (za HB64.out.res)⟩ (fun U hU => ?_) rfl (fun U hU => ?_)
 ·obtain ⟨-, x0, x1, x2, x3, x4, -⟩ := cf5 hU.2;exact qpb
 exact HB64.out.fin HH63.out hU.1 qg qg
end Go.Proofs.YtkfillfkbhbbjaaGreatDoor
