/- operand, walked. Made by a program (parse.py, walk.py). -/
import Derived.Test.YtkfillfkbhbbjaaGreatDoorLevelsI
import Derived.Deep.AppendLies
set_option maxRecDepth 100000
set_option maxHeartbeats 4000000
set_option linter.unusedSimpArgs false
set_option linter.unusedVariables false
namespace Go.Proofs.YtkfillfkbhbbjaaGreatDoor
open Go.RowKit

/-- Elements, each told by its cells. -/
inductive Elems {α : Type} (E : α → List Value → Prop) : List α → List Value → Prop
 | nil : Elems E [] []
 | cons {a : α} {c : List Value} {l : List α} {xs : List Value} (h : E a c) (t : Elems E l xs) : Elems E (a :: l) (c ++ xs)
theorem Elems.mono {α : Type} {E E' : α → List Value → Prop} (h : ∀ a c, E a c → E' a c) {l : List α} {xs : List Value} (t : Elems E l xs) : Elems E' l xs := by
 induction t with
 | nil => exact .nil
 | cons h1 _ ih => exact .cons (h _ _ h1) ih
theorem Elems.snoc {α : Type} {E : α → List Value → Prop} {l : List α} {xs : List Value} {a : α} {c : List Value} (t : Elems E l xs) (h : E a c) : Elems E (l ++ [a]) (xs ++ c) := by
 induction t with
 | nil => simpa using Elems.cons h .nil
 | cons h1 _ ih => simpa using Elems.cons h1 ih
theorem Elems.len {α : Type} {E : α → List Value → Prop} {k : Nat} (h : ∀ a c, E a c → c.length = k) {l : List α} {xs : List Value} (t : Elems E l xs) : xs.length = l.length * k := by
 induction t with
 | nil => simp
 | cons h1 _ ih => simp [h _ _ h1, ih, Nat.add_mul, Nat.add_comm]

/-- What an element's relation must bear: it stays where what it lies in stays; its cells are so many, each one cell. -/
structure ElemL {α : Type} (E : World → (Nat → Prop) → α → List Value → Prop) (size : Nat) : Prop where
 keep : ∀ {w w' : World} {S S' : Nat → Prop} {fp : List Nat} {a : α} {c : List Value}, E w S a c → Keeps fp w w' → (∀ x ∈ fp, ¬ S x) → (∀ x, S x → S' x) → E w' S' a c
 len : ∀ {w : World} {S : Nat → Prop} {a : α} {c : List Value}, E w S a c → c.length = size
 one : ∀ {w : World} {S : Nat → Prop} {a : α} {c : List Value}, E w S a c → ∀ u ∈ c, u.oneCell' = true

/-- The value v is a slice of the call's own that holds l; it and what its elements lie in are blocks of T. -/
def OwnL {α : Type} (E : World → (Nat → Prop) → α → List Value → Prop) (e : TypeId) (size : Nat) (w : World) (b : Nat) (T : Nat → Prop) (l : List α) (v : Value) : Prop :=
 ∃ xs, w.ownsRow b e size v l.length xs ∧ (∀ g, v.ownBlock = some g → T g) ∧ Elems (E w (fun g => T g ∧ v.ownBlock ≠ some g)) l xs

section
variable {α : Type} {E : World → (Nat → Prop) → α → List Value → Prop} {e : TypeId} {size : Nat}
theorem OwnL.nil {w : World} {b : Nat} {T : Nat → Prop} : OwnL E e size w b T [] (.slice none 0 0) := ⟨[], World.ownsRow_nil _ _ _ _, fun _ h => by simp [Value.ownBlock] at h, .nil⟩
theorem OwnL.kp (hE : ElemL E size) {w w' : World} {b : Nat} {T : Nat → Prop} {fp : List Nat} {l : List α} {v : Value} (h : OwnL E e size w b T l v) (hk : Keeps fp w w') (hf : ∀ x ∈ fp, ¬ T x) : OwnL E e size w' b T l v := by
 obtain ⟨xs, ho, ht, hx⟩ := h
 refine ⟨xs, row_of_block ho fun g hg => ?_, ht, hx.mono fun a c h => hE.keep h hk (fun x hx hs => hf x hx hs.1) fun _ h => h⟩
 obtain ⟨cur, hc⟩ := own_block ho hg
 exact hk.block g (h_lt hc) fun hm => hf g hm (ht g hg)
theorem OwnL.to (hE : ElemL E size) {w : World} {b : Nat} {T T' : Nat → Prop} {l : List α} {v : Value} (h : OwnL E e size w b T l v) (hT : ∀ x, T x → T' x) : OwnL E e size w b T' l v := by
 obtain ⟨xs, ho, ht, hx⟩ := h
 exact ⟨xs, ho, fun g hg => hT g (ht g hg), hx.mono fun a c h => hE.keep h (Keeps.refl [] w) (by simp) fun x hx => ⟨hT x hx.1, hx.2⟩⟩
theorem OwnL.base {w : World} {b b' : Nat} {T : Nat → Prop} {l : List α} {v : Value} (h : OwnL E e size w b T l v) (hb : b' ≤ b) : OwnL E e size w b' T l v := by
 obtain ⟨xs, ho, ht, hx⟩ := h
 exact ⟨xs, row_mono ho hb, ht, hx⟩
theorem OwnL.slice {w : World} {b : Nat} {T : Nat → Prop} {l : List α} {v : Value} (h : OwnL E e size w b T l v) : ∃ a cap, v = .slice a l.length cap ∧ (∀ x, a = some x → ∃ g, x = ⟨g, 0, none⟩ ∧ T g ∧ g < w.heap.size) := by
 obtain ⟨xs, ho, ht, hx⟩ := h
 rcases ho.2 with ⟨rfl, hn⟩ | ⟨g, cap, cur, rfl, hb, hg, _⟩
 ·exact ⟨none, 0, by rw [hn], fun _ h => by cases h⟩
 ·exact ⟨_, cap, rfl, fun x hx => ⟨g, by simpa using hx.symm, ht g rfl, h_lt hg⟩⟩
theorem OwnL.one (hE : ElemL E size) {w : World} {b : Nat} {T S : Nat → Prop} {x : α} {c : List Value} {G : Nat} (hG : w.heap[G]? = some (.cells c.toArray e (0, 0))) (hb : b ≤ G) (hT : T G) (hx : E w S x c) (hS : ∀ g, S g → T g ∧ g ≠ G) :
  OwnL E e size w b T [x] (.slice (some ⟨G, 0, none⟩) 1 1) := by
 have hl := hE.len hx
 refine ⟨c, ⟨by simp [hl], .inr ⟨G, 1, c.toArray, rfl, hb, hG, Nat.le_refl _, by simp [maxLen], by simp [hl], ?_⟩⟩, fun g hg => ?_, ?_⟩
 ·rw [List.take_of_length_le (by simp [hl])]
 ·simp [Value.ownBlock] at hg; rw [← hg]; exact hT
 ·simpa using Elems.cons (hE.keep hx (Keeps.refl [] w) (by simp) fun g hg => ⟨(hS g hg).1, fun h => (hS g hg).2 (by simpa [Value.ownBlock] using h.symm)⟩) .nil

theorem own_grown (hE : ElemL E size) {w w1 : World} {b g cap : Nat} {T S : Nat → Prop} {l : List α} {x : α} {v : Value} {c xs : List Value} (ho : w.ownsRow b e size v l.length xs) (ht : ∀ g, v.ownBlock = some g → T g)
  (hx : Elems (E w (fun g => T g ∧ v.ownBlock ≠ some g)) l xs) (hm : E w S x c) (hd : ∀ g, S g → ¬ T g) (hS : ∀ g, S g → g < w.heap.size) (hT : ∀ g, T g → g < w.heap.size)
  (hown : w1.ownsRow b e size (.slice (some ⟨g, 0, none⟩) (l.length + 1) cap) (l.length + 1) (xs ++ c)) (hgr : w.grownBy w1 v.ownBlock) (hat : v.ownBlock = some g ∨ g = w.heap.size) (hlt : g < w1.heap.size) :
  OwnL E e size w1 b (fun k => T k ∨ S k ∨ (w.heap.size ≤ k ∧ k < w1.heap.size)) (l ++ [x]) (.slice (some ⟨g, 0, none⟩) (l.length + 1) cap) ∧ ∃ fl : List Nat, (∀ y ∈ fl, T y) ∧ Keeps fl w w1 := by
 have hfl : ∀ y ∈ v.ownBlock.toList, T y := fun y hy => ht y (by simpa using hy)
 have hk : Keeps v.ownBlock.toList w w1 := Keeps.grown hgr fun k hk => .inl (by simp [hk])
 refine ⟨⟨xs ++ c, by simpa using hown, fun k hk => ?_, ?_⟩, _, hfl, hk⟩
 ·simp [Value.ownBlock] at hk
  subst hk
  rcases hat with h | h
  ·exact .inl (ht _ h)
  ·exact .inr (.inr ⟨Nat.le_of_eq h.symm, hlt⟩)
 ·have h1 : Elems (E w1 (fun k => (T k ∨ S k ∨ (w.heap.size ≤ k ∧ k < w1.heap.size)) ∧ (Value.slice (some ⟨g, 0, none⟩) (l.length + 1) cap).ownBlock ≠ some k)) l xs :=
   hx.mono fun a c h => hE.keep h hk (fun y hy hs => hs.2 (by simpa using hy)) fun k hs => ⟨.inl hs.1, fun e1 => by
    simp [Value.ownBlock] at e1
    subst e1
    rcases hat with h | h
    ·exact hs.2 h
    ·exact Nat.lt_irrefl _ (h ▸ hT _ hs.1)⟩
  refine h1.snoc (hE.keep hm hk (fun y hy hs => hd y hs (hfl y hy)) fun k hs => ⟨.inr (.inl hs), fun e1 => ?_⟩)
  simp [Value.ownBlock] at e1
  subst e1
  rcases hat with h | h
  ·exact hd _ hs (ht _ h)
  ·exact Nat.lt_irrefl _ (h ▸ hS _ hs)

/-- append of one element. -/
theorem wpList_appL {P : Program} (hE : ElemL E size) {ops : Array Oper} {rest : List Oper} {o : Oper} {a : Act} {w : World} {Q : Exit → Act → World → Prop} (hgd : o.guard = none) (s y : Operand) (t : TypeId)
  (ho : o.op = .call { callee := .builtin .append, args := #[s, y], argTypes := #[t, t] }) {i : TypeInfo} {z : Value} {bytes : Nat} (hu : P.underlying t = some (.slice e)) (hi : P.info? e = some i) (hz : i.zero = some z)
  (hsize : i.size = size) (hby : i.bytes = bytes) (hzs : z.cells.size = size) (hsz : 0 < size) (hbb : bytes ≤ 1000)
  {b G cap : Nat} {T S : Nat → Prop} {l : List α} {x : α} {v : Value} {c : List Value} (hs : a.eval s = v) (hy : a.eval y = .slice (some ⟨G, 0, none⟩) 1 cap) (hO : OwnL E e size w b T l v)
  (hG : w.heap[G]? = some (.cells c.toArray e (0, 0))) (hm : E w S x c) (hd : ∀ g, S g → ¬ T g) (hS : ∀ g, S g → g < w.heap.size) (hT : ∀ g, T g → g < w.heap.size) (hb : b ≤ w.heap.size) (hl : l.length ≤ 100000)
  (h : ∀ v' w' fl, (∀ x ∈ fl, T x) → Keeps fl w w' → OwnL E e size w' b (fun g => T g ∨ S g ∨ (w.heap.size ≤ g ∧ g < w'.heap.size)) (l ++ [x]) v' → wpList P ops Q rest (a.put o.dst v') w') : wpList P ops Q (o :: rest) a w := by
 obtain ⟨xs, hown, ht, hx⟩ := hO
 have hlen := hE.len hm
 refine wpList_append_lies w hgd s y t ho b e i z size bytes hu hi hz hsize hby hzs hsz v l.length xs hs hown ⟨G, 0, none⟩ 1 cap c hy (by simp [hlen]) (fun j u hj => ?_) (hE.one hm) (by omega) (by simp [maxLen]; omega) ?_ hb _ rfl fun g cp w1 h1 h2 h3 h4 => ?_
 ·have := cell_of_heap hG j
  have e1 : (⟨G, 0, none⟩ : Addr).add j = ⟨G, j, none⟩ := by simp [Addr.add]; intro h; rw [h]
  rw [e1, this]; simpa using hj
 ·exact Nat.le_trans (Nat.mul_le_mul (show l.length + 1 ≤ 100001 by omega) hbb) (by decide)
 ·obtain ⟨q1, fl, q2, q3⟩ := own_grown hE hown ht hx hm hd hS hT h1 h2 h3 h4
  exact h _ _ fl q2 q3 q1
end

/-! ### nodes as elements -/
def NodeE (w : World) (S : Nat → Prop) (n : Node) (c : List Value) : Prop := c.length = 5 ∧ NodeR w S n (.agg c.toArray)
theorem nodeL : ElemL NodeE 5 := {
 keep := fun h hk hf hS => ⟨h.1, h.2.keep hk hf hS⟩
 len := fun h => h.1
 one := fun {w S a c} h u hu => by
  obtain ⟨tx, nm, k, l, cap, re, im, hv, -, -⟩ := h.2.shape
  have hc : c = [.int .i64 a.kind, .string tx, .float .f64 nm, .slice k l cap, .complex .f64 re im] := by simpa using hv
  subst hc
  simp at hu
  rcases hu with rfl | rfl | rfl | rfl | rfl <;> rfl
 }
theorem elems_row {w : World} {S : Nat → Prop} {g : Nat} {ns : List Node} {xs : List Value} (h : Elems (NodeE w S) ns xs) : ∀ o, (∀ j u, xs[j]? = some u → w.cell? ⟨g, o + j, none⟩ = some u) → RowR w S g o ns := by
 induction h with
 | nil => intro o _; exact .nil
 | cons hn _ ih =>
  intro o hc
  obtain ⟨h5, hr⟩ := hn
  rename_i c ns xs _
  obtain ⟨c0, c1, c2, c3, c4, rfl⟩ : ∃ c0 c1 c2 c3 c4, c = [c0, c1, c2, c3, c4] := by
   match c, h5 with
   | [c0, c1, c2, c3, c4], _ => exact ⟨_, _, _, _, _, rfl⟩
  refine .cons hr (by simpa using hc 0 c0 rfl) (hc 1 c1 rfl) (hc 2 c2 rfl) (hc 3 c3 rfl) (hc 4 c4 rfl) (ih _ fun j u hj => ?_)
  have := hc (5 + j) u (by rw [List.getElem?_append_right (by simp)]; simpa using hj)
  rwa [← Nat.add_assoc] at this
theorem kids_of_own {w : World} {b : Nat} {T : Nat → Prop} {ns : List Node} {v : Value} (h : OwnL NodeE 50 5 w b T ns v) : KidsR w T ns v := by
 obtain ⟨xs, ho, ht, hx⟩ := h
 rcases ho.2 with ⟨rfl, hn⟩ | ⟨g, cap, cur, rfl, hb, hg, h1, h2, h3, h4⟩
 ·cases ns with
  | nil => exact .nil
  | cons n ns => simp at hn
 ·cases ns with
  | nil => exact .nil
  | cons n ns =>
   refine .some (ht g rfl) (h_lt hg) (elems_row (hx.mono fun a c h => nodeL.keep h (Keeps.refl [] w) (by simp) fun _ h => h.1) 0 fun j u hj => ?_)
   rw [cell_of_heap hg, ← h4] at *
   rw [Nat.zero_add]
   have hj2 : (cur.toList.take ((n :: ns).length * 5))[j]? = some u := hj
   rw [List.getElem?_take] at hj2
   split at hj2
   ·simpa using hj2
   ·cases hj2
theorem info50 : ∃ i, Tryz.prog.info? 50 = some i ∧ i.zero = some (.agg #[.int .i64 0, .string ⟨#[]⟩, .float .f64 0, .slice none 0 0, .complex .f64 0 0]) ∧ i.size = 5 ∧ i.bytes = 72 := by
 have h : (Tryz.prog.info? 50).map (fun i => (i.zero, i.size, i.bytes)) = some (some (.agg #[.int .i64 0, .string ⟨#[]⟩, .float .f64 0, .slice none 0 0, .complex .f64 0 0]), 5, 72) := by kernel_rfl
 cases hi : Tryz.prog.info? 50 with
 | none => rw [hi] at h; cases h
 | some i => rw [hi] at h; simp at h; exact ⟨i, rfl, h.1, h.2.1, h.2.2⟩
/-- append of a node. -/
theorem app_node {ops : Array Oper} {rest : List Oper} {o : Oper} {a : Act} {w : World} {Q : Exit → Act → World → Prop} (hgd : o.guard = none) (s y : Operand)
  (ho : o.op = .call { callee := .builtin .append, args := #[s, y], argTypes := #[47, 47] })
  {b G cap : Nat} {T S : Nat → Prop} {l : List Node} {x : Node} {v c0 c1 c2 c3 c4 : Value} (hs : a.eval s = v) (hy : a.eval y = .slice (some ⟨G, 0, none⟩) 1 cap) (hO : OwnL NodeE 50 5 w b T l v)
  (hG : w.heap[G]? = some (.cells #[c0, c1, c2, c3, c4] 50 (0, 0))) (hm : NodeR w S x (.agg #[c0, c1, c2, c3, c4])) (hd : ∀ g, S g → ¬ T g) (hS : ∀ g, S g → g < w.heap.size) (hT : ∀ g, T g → g < w.heap.size) (hb : b ≤ w.heap.size) (hl : l.length ≤ 100000)
  (h : ∀ v' w' fl, (∀ x ∈ fl, T x) → Keeps fl w w' → OwnL NodeE 50 5 w' b (fun g => T g ∨ S g ∨ (w.heap.size ≤ g ∧ g < w'.heap.size)) (l ++ [x]) v' → wpList Tryz.prog ops Q rest (a.put o.dst v') w') : wpList Tryz.prog ops Q (o :: rest) a w := by
 obtain ⟨i, hi, hz, hsz, hby⟩ := info50
 exact wpList_appL nodeL hgd s y 47 ho Tryz.underlying47 hi hz hsz hby rfl (by decide) (by decide) hs hy hO (c := [c0, c1, c2, c3, c4]) hG ⟨rfl, hm⟩ hd hS hT hb hl h
end Go.Proofs.YtkfillfkbhbbjaaGreatDoor
namespace Go.Proofs.YtkfillfkbhbbjaaGreatDoor
open Go.RowKit

/-- A list's loop. -/
def ListI (s : ByteArray) (p : Nat) (w : World) (rec : Rec) (l' : List Node) (st' : PSt) (g : Nat) (v : Value) (wr : World) : Prop :=
 ∃ (l : List Node) (st : PSt) (T : Nat → Prop) (U : Nat), moreF s rec g l st = some (l', st') ∧ l.length + g ≤ 60 ∧ OwnL NodeE 50 5 wr w.heap.size T l v ∧
  (∀ x, T x → x < U) ∧ U ≤ wr.heap.size ∧ (∀ x, T x → w.heap.size ≤ x) ∧ ¬ T p ∧ PP s p st wr ∧ Keeps [p] w wr
theorem isF_any {s : ByteArray} {p : Nat} {st : PSt} {w : World} (h : PP s p st w) {x : ByteArray} {b : Bool} (hx : isF s st x = some b) :
  Calls Tryz.prog 64 #[.pointer (some ⟨p, 0, none⟩), .string x] w fun r w' => r = .returned (.bool b) ∧ Keeps [] w w' := by
 unfold isF at hx
 cases ht : nextF s st.pos false with
 | none => rw [ht] at hx; simp at hx
 | some t =>
  rw [ht] at hx
  simp only [Option.bind_eq_bind, Option.bind_some, Option.some.injEq] at hx
  subst hx
  exact is_any h ht x
theorem listF_ng {s : ByteArray} {rec : Rec} : ∀ (f : Nat) (l l' : List Node) (st st' : PSt), moreF s rec f l st = some (l', st') → True := fun _ _ _ _ _ _ => trivial

theorem list_true {s : ByteArray} {p : Nat} {pos : Nat} {opn : Int} {st1 st2 : PSt} {n : Node} {l' : List Node} {rec : Rec} {top : Bool} (hrec : ∀ st st' n, rec .expr st = some (n, st') → Hands s p st st' n 109)
  (h1 : rec .expr ⟨pos, opn, top⟩ = some (n, st1)) (hm : moreF s rec 50 [n] st1 = some (l', st2)) (w : World) (h : PP s p ⟨pos, opn, true⟩ w) :
  Calls Tryz.prog 224 #[.pointer (some ⟨p, 0, none⟩), .bool top] w fun r w' => ∃ v, r = .returned v ∧ KidsR w' (fun g => w.heap.size ≤ g) l' v ∧ PP s p ⟨st2.pos, st2.opn, true⟩ w' ∧ Keeps [p] w w' := by
 have hsub := hrec _ _ _ h1
 have g_p := h.p
 have g_0 : 14 < w.heap.size := Nat.lt_trans g_p (h_lt h.row)
 have HP0 := zh h; have HK0 := zh (Keeps.refl [p] w); have HS1 := zh hsub; have HRec := zh hrec; have HG := zh hm
 clear h hsub hrec hm h1
 go_enter Tryz.func224, Tryz.ntmps224
 obtain ⟨l_p, xp_0, xp_1, xp_2, xp_3, xp_4, xp_5, yp_0, yp_1, yp_2, yp_3, yp_4, yp_5⟩ := cf6 HP0.out.row
 go_wp2_with fail
 refine calls_at (fun W => Keeps [p] w W ∧ W.heap[p]? = some (.cells #[.string s, .int .i64 pos, .int .i64 opn, .bool top, .int .i64 0, .complex .f64 0 0] 87 (0, 0))) ⟨(by with_reducible repeat (first | exact k0 _ _ | refine kA ?_ _ | refine kD ?_ | refine kS ?_ (by simp) | refine kM ?_ (by simp))), (by simp only [hS, hA, hD, hM, reduceIte, Option.map_some, Obj.put, HP0.out.row, Nat.ne_of_lt l_p, Nat.ne_of_gt l_p] <;> rfl)⟩ ?_
 rintro w1 ⟨Kw1, cw1_p⟩
 have HKw1 := zh (HK0.out.trans Kw1 (by simp))
 have HPw1 : Hid (PP s p ⟨pos, opn, top⟩ w1) := zh (HP0.out.upd Kw1 (by simp [g_p]) cw1_p HP0.out.le HP0.out.ob)
 clear Kw1 cw1_p l_p xp_0 xp_1 xp_2 xp_3 xp_4 xp_5 yp_0 yp_1 yp_2 yp_3 yp_4 yp_5 HK0 HP0
 refine (HS1.out _ HPw1.out).mono ?_
 rintro r e2 ⟨v, rfl, hn, hp, hk⟩
 have HKe2 := zh (HKw1.out.trans hk (by simp))
 have HPne2 := zh hp
 have ne2 := zh hn.seg
 have o_n : w.heap.size ≤ w1.heap.size := HKw1.out.size
 have ns_n_p : ¬ (Seg w1.heap.size e2.heap.size) (p) := fun h => Nat.not_lt_of_le h.1 (h_lt HPw1.out.row)
 have up_n : ∀ g, (Seg w1.heap.size e2.heap.size) g → g < e2.heap.size := fun _ h => h.2
 have dn_n : ∀ g, (Seg w1.heap.size e2.heap.size) g → w.heap.size ≤ g := fun _ h => Nat.le_trans o_n h.1
 obtain ⟨nt, nm, na, nl, nc, nr, ni, rfl, -, -⟩ := hn.shape
 clear hn hp
 clear hk HKw1 HPw1
 have l_p := h_lt HPne2.out.row
 go_wp2_with fail
 refine wp_at (fun W => Keeps [] e2 W ∧ W.heap[e2.heap.size]? = some (.cells #[.int .i64 n.kind, .string nt, .float .f64 nm, .slice na nl nc, .complex .f64 nr ni] 50 (0, 0))) ⟨(by with_reducible repeat (first | exact k0 _ _ | refine kA ?_ _ | refine kD ?_ | refine kS ?_ (by simp) | refine kM ?_ (by simp))), (by simp only [hS, hA, hD, hM, World.size_setCell, World.size_drew, reduceIte, Option.map_some, Obj.put] <;> rfl)⟩ ?_
 rintro w3 ⟨Kw3, cw3_G⟩
 have ⟨n_p_G, n_G_p⟩ := zne l_p
 have o_G : w.heap.size ≤ e2.heap.size := HKe2.out.size
 have g_G : 14 < e2.heap.size := Nat.lt_trans g_p l_p
 have ns_n_G : ¬ (Seg w1.heap.size e2.heap.size) (e2.heap.size) := fun h => Nat.not_lt_of_le ((Nat.le_refl e2.heap.size)) (up_n _ h)
 have HKw3 := zh (HKe2.out.trans Kw3 (by simp))
 have HPw3 := zh (HPne2.out.keep Kw3)
 have nw3 := zh (ne2.out.kp Kw3 (by simp))
 have us_nw3 := Nat.le_trans (Nat.le_refl e2.heap.size) Kw3.size
 have Rw3_G := zh cw3_G
 clear Kw3 cw3_G l_p HKe2 HPne2 ne2
 have hE1 : OwnL NodeE 50 5 w3 w.heap.size (fun x => (Seg w1.heap.size e2.heap.size) x ∨ x = e2.heap.size) [n] (.slice (some ⟨e2.heap.size, 0, none⟩) 1 1) := OwnL.one nodeL (c := [.int .i64 n.kind, .string nt, .float .f64 nm, .slice na nl nc, .complex .f64 nr ni]) Rw3_G.out o_G (.inr rfl) ⟨rfl, nw3.out⟩ fun g hg => ⟨.inl hg, fun h => ns_n_G (h ▸ hg)⟩
 have HE1 := zh hE1
 clear hE1
 go_loopg [6] 50 (fun g v wr => ListI s p w rec l' st2 g v wr)
 case atStart => exact ⟨[n], st1, _, w3.heap.size, HG.out, by simp, HE1.out, fun x h => h.elim (fun h => Nat.lt_of_lt_of_le (up_n x h) us_nw3) fun h => by rw [h]; exact h_lt Rw3_G.out, Nat.le_refl _, fun x h => h.elim (dn_n x) fun h => by rw [h]; exact o_G, fun h => h.elim ns_n_p n_p_G, HPw3.out, HKw3.out⟩
 clear HG HE1
 case round =>
  obtain ⟨l, st1, T, U, hG, hlen, hl, up_l, us_l, dn_l, ns_l_p, hp, hk⟩ := hrel
  have HL1 := zh hl; have HPr := zh hp; have HKr := zh hk
  clear hl hp hk
  cases gk with
  | zero => simp [moreF] at hG
  | succ f =>
   rw [moreF] at hG
   cases ho : takeF s st1 (bs [44]) with
   | none => rw [ho] at hG; simp at hG
   | some y =>
    obtain ⟨b, st2a⟩ := y
    rw [ho] at hG
    simp only [Option.bind_eq_bind, Option.bind_some] at hG
    have HX : Hid (takeF s st1 ⟨#[44]⟩ = some (b, st2a)) := zh ho
    clear ho
    cases b with
    | false =>
     simp only [Option.some.injEq, Prod.mk.injEq, Bool.false_eq_true, if_false] at hG
     obtain ⟨rfl, rfl⟩ := hG
     have l_p := h_lt HPr.out.row
     go_wp2_with fail
     clear l_p
     refine (ok_any HPr.out).mono ?_
     rintro r w' ⟨rfl, hw'⟩
     rw [hw']
     clear hw'
     have l_p := h_lt HPr.out.row
     go_wp2_with fail
     clear l_p
     refine (take_any HPr.out HX.out).mono ?_
     rintro r e51 ⟨rfl, hp, hk⟩
     have HKe51 := zh (HKr.out.trans hk (by simp))
     have le51 := zh (OwnL.kp nodeL HL1.out hk (by simp [ns_l_p]))
     have us_le51 := Nat.le_trans us_l hk.size
     have HPne51 := zh hp
     clear hp
     clear hk HKr HL1 us_l HPr
     obtain ⟨l_p, xp_0, xp_1, xp_2, xp_3, xp_4, xp_5, yp_0, yp_1, yp_2, yp_3, yp_4, yp_5⟩ := cf6 HPne51.out.row
     go_wp2_with fail
     refine ret_at (v := u6) (fun W => Keeps [p] e51 W ∧ W.heap[p]? = some (.cells #[.string s, .int .i64 st2a.pos, .int .i64 st2a.opn, .bool true, .int .i64 0, .complex .f64 0 0] 87 (0, 0))) ⟨(by with_reducible repeat (first | exact k0 _ _ | refine kA ?_ _ | refine kD ?_ | refine kS ?_ (by simp) | refine kM ?_ (by simp))), (by simp only [hS, hA, hD, hM, reduceIte, Option.map_some, Obj.put, HPne51.out.row, Nat.ne_of_lt l_p, Nat.ne_of_gt l_p] <;> rfl)⟩ (fun w52 hW => ?_) rfl (fun w52 hW => ?_)
     ·obtain ⟨Kw52, cw52_p⟩ := hW
      simp [results, Tryz.results224, go_sem]
     ·obtain ⟨Kw52, cw52_p⟩ := hW
      have HKw52 := zh (HKe51.out.trans Kw52 (by simp))
      have HPw52 : Hid (PP s p ⟨st2a.pos, st2a.opn, true⟩ w52) := zh (HPne51.out.upd Kw52 (by simp [g_p]) cw52_p HPne51.out.le HPne51.out.ob)
      have lw52 := zh (OwnL.kp nodeL le51.out Kw52 (by simp [ns_l_p]))
      have us_lw52 := Nat.le_trans us_le51 Kw52.size
      clear Kw52 cw52_p l_p xp_0 xp_1 xp_2 xp_3 xp_4 xp_5 yp_0 yp_1 yp_2 yp_3 yp_4 yp_5 HKe51 HPne51 le51 us_le51
      exact ⟨_, rfl, (kids_of_own lw52.out).to dn_l, HPw52.out, HKw52.out⟩
    | true =>
     simp only [if_true] at hG
     cases hy : linesA s st2a (bs []) with
     | none => rw [hy] at hG; simp at hG
     | some st3 =>
      rw [hy] at hG
      simp only [Option.bind_some] at hG
      cases hm : rec .expr st3 with
      | none => rw [hm] at hG; simp at hG
      | some y =>
       rw [hm] at hG
       obtain ⟨m, st4⟩ := y
       simp only [Option.bind_some] at hG
       have HM := zh (HRec.out _ _ _ hm); have HF := zh hG; have HY : Hid (linesF s ⟨#[]⟩ (s.size + 2) st2a = some st3) := zh hy
       clear hm hG hy
       have l_p := h_lt HPr.out.row
       go_wp2_with fail
       clear l_p
       refine (ok_any HPr.out).mono ?_
       rintro r w' ⟨rfl, hw'⟩
       rw [hw']
       clear hw'
       have l_p := h_lt HPr.out.row
       go_wp2_with fail
       clear l_p
       refine (take_any HPr.out HX.out).mono ?_
       rintro r e51 ⟨rfl, hp, hk⟩
       have HKe51 := zh (HKr.out.trans hk (by simp))
       have le51 := zh (OwnL.kp nodeL HL1.out hk (by simp [ns_l_p]))
       have us_le51 := Nat.le_trans us_l hk.size
       have HPne51 := zh hp
       clear hp
       clear hk HKr HL1 us_l HPr
       have l_p := h_lt HPne51.out.row
       go_wp2_with fail
       clear l_p
       refine (lines_any HPne51.out HY.out).mono ?_
       rintro r e52 ⟨rfl, hp, hk⟩
       have HKe52 := zh (HKe51.out.trans hk (by simp))
       have le52 := zh (OwnL.kp nodeL le51.out hk (by simp [ns_l_p]))
       have us_le52 := Nat.le_trans us_le51 hk.size
       have HPne52 := zh hp
       clear hp
       clear hk HKe51 le51 us_le51 HPne51
       have l_p := h_lt HPne52.out.row
       go_wp2_with fail
       clear l_p
       refine (HM.out _ HPne52.out).mono ?_
       rintro r e53 ⟨v, rfl, hn, hp, hk⟩
       have HKe53 := zh (HKe52.out.trans hk (by simp))
       have le53 := zh (OwnL.kp nodeL le52.out hk (by simp [ns_l_p]))
       have us_le53 := Nat.le_trans us_le52 hk.size
       have HPne53 := zh hp
       have me53 := zh hn.seg
       have o_m : w.heap.size ≤ e52.heap.size := HKe52.out.size
       have ns_m_p : ¬ (Seg e52.heap.size e53.heap.size) (p) := fun h => Nat.not_lt_of_le h.1 (h_lt HPne52.out.row)
       have up_m : ∀ g, (Seg e52.heap.size e53.heap.size) g → g < e53.heap.size := fun _ h => h.2
       have dn_m : ∀ g, (Seg e52.heap.size e53.heap.size) g → w.heap.size ≤ g := fun _ h => Nat.le_trans o_m h.1
       have us_l_m := us_le52
       obtain ⟨mt, mm, ma, ml, mc, mr, mi, rfl, -, -⟩ := hn.shape
       clear hn hp
       clear hk HKe52 le52 us_le52 HPne52
       have l_p := h_lt HPne53.out.row
       go_wp2_with (
        at_builtin
        go_loud (
         refine list_at (fun W => Keeps [] e53 W ∧ W.heap[e53.heap.size]? = some (.cells #[.int .i64 m.kind, .string mt, .float .f64 mm, .slice ma ml mc, .complex .f64 mr mi] 50 (0, 0))) ⟨(by with_reducible repeat (first | exact k0 _ _ | refine kA ?_ _ | refine kD ?_ | refine kS ?_ (by simp) | refine kM ?_ (by simp))), (by simp only [hS, hA, hD, hM, World.size_setCell, World.size_drew, reduceIte, Option.map_some, Obj.put] <;> rfl)⟩ ?_
         rintro w54 ⟨Kw54, cw54_G⟩
         have ⟨n_p_G, n_G_p⟩ := zne l_p
         have o_G : w.heap.size ≤ e53.heap.size := HKe53.out.size
         have g_G : 14 < e53.heap.size := Nat.lt_trans g_p l_p
         have ns_l_G : ¬ (T) (e53.heap.size) := fun h => Nat.not_lt_of_le (us_le53) (up_l _ h)
         have ns_m_G : ¬ (Seg e52.heap.size e53.heap.size) (e53.heap.size) := fun h => Nat.not_lt_of_le ((Nat.le_refl e53.heap.size)) (up_m _ h)
         have HKw54 := zh (HKe53.out.trans Kw54 (by simp))
         have HPw54 := zh (HPne53.out.keep Kw54)
         have lw54 := zh (OwnL.kp nodeL le53.out Kw54 (by simp))
         have us_lw54 := Nat.le_trans us_le53 Kw54.size
         have mw54 := zh (me53.out.kp Kw54 (by simp))
         have us_mw54 := Nat.le_trans (Nat.le_refl e53.heap.size) Kw54.size
         have Rw54_G := zh cw54_G
         clear Kw54 cw54_G l_p HKe53 HPne53 le53 us_le53 me53
         refine app_node rfl (.tmp 29) (.tmp 32) rfl rfl rfl lw54.out Rw54_G.out mw54.out (fun g hs ht => Nat.not_lt_of_le hs.1 (Nat.lt_of_lt_of_le (up_l g ht) us_l_m)) (fun g hg => Nat.lt_of_lt_of_le (up_m g hg) us_mw54) (fun g hg => Nat.lt_of_lt_of_le (up_l g hg) us_lw54) HKw54.out.size (by omega) ?_))
       intro ve55 e55 fl hfl hk hown
       have Re55_G := zh (hk.at Rw54_G.out (fun h => ns_l_G (hfl _ h)))
       have HKe55 := zh (HKw54.out.trans hk (fun x h => .inr (dn_l x (hfl x h))))
       have HPe55 := zh (HPw54.out.keepN hk (fun h => ns_l_p (hfl _ h)) (fun x h => Nat.lt_of_lt_of_le g_0 (dn_l x (hfl x h))))
       have us_le55 := Nat.le_trans us_lw54 hk.size
       have us_me55 := Nat.le_trans us_mw54 hk.size
       have HOe55 := zh hown
       clear hown hk hfl Rw54_G us_lw54 us_mw54
       have l_p := h_lt HPe55.out.row
       have l_G := h_lt Re55_G.out
       go_wp2_with fail
       go_roundg f
       case measure => omega
       case rel =>
        exact ⟨l ++ [m], st4, _, e55.heap.size, HF.out, by rw [List.length_append, List.length_singleton]; omega, HOe55.out,
         fun x h => h.elim (fun h => Nat.lt_of_lt_of_le (up_l x h) us_le55) fun h => h.elim (fun h => Nat.lt_of_lt_of_le (up_m x h) us_me55) fun h => h.2,
         Nat.le_refl _, fun x h => h.elim (dn_l x) fun h => h.elim (dn_m x) fun h => Nat.le_trans HKw54.out.size h.1,
         fun h => h.elim ns_l_p fun h => h.elim ns_m_p fun h => Nat.not_lt_of_le h.1 (h_lt HPw54.out.row), HPe55.out, HKe55.out⟩

theorem list_false {s : ByteArray} {p : Nat} {pos : Nat} {opn : Int} {st1 st2 : PSt} {n : Node} {l' : List Node} {rec : Rec} {top : Bool} (hrec : ∀ st st' n, rec .expr st = some (n, st') → Hands s p st st' n 109)
  (h1 : rec .expr ⟨pos, opn, false⟩ = some (n, st1)) (hm : moreF s rec 50 [n] st1 = some (l', st2)) (w : World) (h : PP s p ⟨pos, opn, false⟩ w) :
  Calls Tryz.prog 224 #[.pointer (some ⟨p, 0, none⟩), .bool top] w fun r w' => ∃ v, r = .returned v ∧ KidsR w' (fun g => w.heap.size ≤ g) l' v ∧ PP s p ⟨st2.pos, st2.opn, false⟩ w' ∧ Keeps [p] w w' := by
 have hsub := hrec _ _ _ h1
 have g_p := h.p
 have g_0 : 14 < w.heap.size := Nat.lt_trans g_p (h_lt h.row)
 have HP0 := zh h; have HK0 := zh (Keeps.refl [p] w); have HS1 := zh hsub; have HRec := zh hrec; have HG := zh hm
 clear h hsub hrec hm h1
 go_enter Tryz.func224, Tryz.ntmps224
 obtain ⟨l_p, xp_0, xp_1, xp_2, xp_3, xp_4, xp_5, yp_0, yp_1, yp_2, yp_3, yp_4, yp_5⟩ := cf6 HP0.out.row
 go_wp2_with fail
 refine calls_at (fun W => Keeps [p] w W ∧ W.heap[p]? = some (.cells #[.string s, .int .i64 pos, .int .i64 opn, .bool false, .int .i64 0, .complex .f64 0 0] 87 (0, 0))) ⟨(by with_reducible repeat (first | exact k0 _ _ | refine kA ?_ _ | refine kD ?_ | refine kS ?_ (by simp) | refine kM ?_ (by simp))), (by simp only [hS, hA, hD, hM, reduceIte, Option.map_some, Obj.put, HP0.out.row, Nat.ne_of_lt l_p, Nat.ne_of_gt l_p] <;> rfl)⟩ ?_
 rintro w1 ⟨Kw1, cw1_p⟩
 have HKw1 := zh (HK0.out.trans Kw1 (by simp))
 have HPw1 : Hid (PP s p ⟨pos, opn, false⟩ w1) := zh (HP0.out.upd Kw1 (by simp [g_p]) cw1_p HP0.out.le HP0.out.ob)
 clear Kw1 cw1_p l_p xp_0 xp_1 xp_2 xp_3 xp_4 xp_5 yp_0 yp_1 yp_2 yp_3 yp_4 yp_5 HK0 HP0
 refine (HS1.out _ HPw1.out).mono ?_
 rintro r e2 ⟨v, rfl, hn, hp, hk⟩
 have HKe2 := zh (HKw1.out.trans hk (by simp))
 have HPne2 := zh hp
 have ne2 := zh hn.seg
 have o_n : w.heap.size ≤ w1.heap.size := HKw1.out.size
 have ns_n_p : ¬ (Seg w1.heap.size e2.heap.size) (p) := fun h => Nat.not_lt_of_le h.1 (h_lt HPw1.out.row)
 have up_n : ∀ g, (Seg w1.heap.size e2.heap.size) g → g < e2.heap.size := fun _ h => h.2
 have dn_n : ∀ g, (Seg w1.heap.size e2.heap.size) g → w.heap.size ≤ g := fun _ h => Nat.le_trans o_n h.1
 obtain ⟨nt, nm, na, nl, nc, nr, ni, rfl, -, -⟩ := hn.shape
 clear hn hp
 clear hk HKw1 HPw1
 have l_p := h_lt HPne2.out.row
 go_wp2_with fail
 refine wp_at (fun W => Keeps [] e2 W ∧ W.heap[e2.heap.size]? = some (.cells #[.int .i64 n.kind, .string nt, .float .f64 nm, .slice na nl nc, .complex .f64 nr ni] 50 (0, 0))) ⟨(by with_reducible repeat (first | exact k0 _ _ | refine kA ?_ _ | refine kD ?_ | refine kS ?_ (by simp) | refine kM ?_ (by simp))), (by simp only [hS, hA, hD, hM, World.size_setCell, World.size_drew, reduceIte, Option.map_some, Obj.put] <;> rfl)⟩ ?_
 rintro w3 ⟨Kw3, cw3_G⟩
 have ⟨n_p_G, n_G_p⟩ := zne l_p
 have o_G : w.heap.size ≤ e2.heap.size := HKe2.out.size
 have g_G : 14 < e2.heap.size := Nat.lt_trans g_p l_p
 have ns_n_G : ¬ (Seg w1.heap.size e2.heap.size) (e2.heap.size) := fun h => Nat.not_lt_of_le ((Nat.le_refl e2.heap.size)) (up_n _ h)
 have HKw3 := zh (HKe2.out.trans Kw3 (by simp))
 have HPw3 := zh (HPne2.out.keep Kw3)
 have nw3 := zh (ne2.out.kp Kw3 (by simp))
 have us_nw3 := Nat.le_trans (Nat.le_refl e2.heap.size) Kw3.size
 have Rw3_G := zh cw3_G
 clear Kw3 cw3_G l_p HKe2 HPne2 ne2
 have hE1 : OwnL NodeE 50 5 w3 w.heap.size (fun x => (Seg w1.heap.size e2.heap.size) x ∨ x = e2.heap.size) [n] (.slice (some ⟨e2.heap.size, 0, none⟩) 1 1) := OwnL.one nodeL (c := [.int .i64 n.kind, .string nt, .float .f64 nm, .slice na nl nc, .complex .f64 nr ni]) Rw3_G.out o_G (.inr rfl) ⟨rfl, nw3.out⟩ fun g hg => ⟨.inl hg, fun h => ns_n_G (h ▸ hg)⟩
 have HE1 := zh hE1
 clear hE1
 go_loopg [6] 50 (fun g v wr => ListI s p w rec l' st2 g v wr)
 case atStart => exact ⟨[n], st1, _, w3.heap.size, HG.out, by simp, HE1.out, fun x h => h.elim (fun h => Nat.lt_of_lt_of_le (up_n x h) us_nw3) fun h => by rw [h]; exact h_lt Rw3_G.out, Nat.le_refl _, fun x h => h.elim (dn_n x) fun h => by rw [h]; exact o_G, fun h => h.elim ns_n_p n_p_G, HPw3.out, HKw3.out⟩
 clear HG HE1
 case round =>
  obtain ⟨l, st1, T, U, hG, hlen, hl, up_l, us_l, dn_l, ns_l_p, hp, hk⟩ := hrel
  have HL1 := zh hl; have HPr := zh hp; have HKr := zh hk
  clear hl hp hk
  cases gk with
  | zero => simp [moreF] at hG
  | succ f =>
   rw [moreF] at hG
   cases ho : takeF s st1 (bs [44]) with
   | none => rw [ho] at hG; simp at hG
   | some y =>
    obtain ⟨b, st2a⟩ := y
    rw [ho] at hG
    simp only [Option.bind_eq_bind, Option.bind_some] at hG
    have HX : Hid (takeF s st1 ⟨#[44]⟩ = some (b, st2a)) := zh ho
    clear ho
    cases b with
    | false =>
     simp only [Option.some.injEq, Prod.mk.injEq, Bool.false_eq_true, if_false] at hG
     obtain ⟨rfl, rfl⟩ := hG
     have l_p := h_lt HPr.out.row
     go_wp2_with fail
     clear l_p
     refine (ok_any HPr.out).mono ?_
     rintro r w' ⟨rfl, hw'⟩
     rw [hw']
     clear hw'
     have l_p := h_lt HPr.out.row
     go_wp2_with fail
     clear l_p
     refine (take_any HPr.out HX.out).mono ?_
     rintro r e51 ⟨rfl, hp, hk⟩
     have HKe51 := zh (HKr.out.trans hk (by simp))
     have le51 := zh (OwnL.kp nodeL HL1.out hk (by simp [ns_l_p]))
     have us_le51 := Nat.le_trans us_l hk.size
     have HPne51 := zh hp
     clear hp
     clear hk HKr HL1 us_l HPr
     obtain ⟨l_p, xp_0, xp_1, xp_2, xp_3, xp_4, xp_5, yp_0, yp_1, yp_2, yp_3, yp_4, yp_5⟩ := cf6 HPne51.out.row
     go_wp2_with fail
     refine ret_at (v := u6) (fun W => Keeps [p] e51 W ∧ W.heap[p]? = some (.cells #[.string s, .int .i64 st2a.pos, .int .i64 st2a.opn, .bool false, .int .i64 0, .complex .f64 0 0] 87 (0, 0))) ⟨(by with_reducible repeat (first | exact k0 _ _ | refine kA ?_ _ | refine kD ?_ | refine kS ?_ (by simp) | refine kM ?_ (by simp))), (by simp only [hS, hA, hD, hM, reduceIte, Option.map_some, Obj.put, HPne51.out.row, Nat.ne_of_lt l_p, Nat.ne_of_gt l_p] <;> rfl)⟩ (fun w52 hW => ?_) rfl (fun w52 hW => ?_)
     ·obtain ⟨Kw52, cw52_p⟩ := hW
      simp [results, Tryz.results224, go_sem]
     ·obtain ⟨Kw52, cw52_p⟩ := hW
      have HKw52 := zh (HKe51.out.trans Kw52 (by simp))
      have HPw52 : Hid (PP s p ⟨st2a.pos, st2a.opn, false⟩ w52) := zh (HPne51.out.upd Kw52 (by simp [g_p]) cw52_p HPne51.out.le HPne51.out.ob)
      have lw52 := zh (OwnL.kp nodeL le51.out Kw52 (by simp [ns_l_p]))
      have us_lw52 := Nat.le_trans us_le51 Kw52.size
      clear Kw52 cw52_p l_p xp_0 xp_1 xp_2 xp_3 xp_4 xp_5 yp_0 yp_1 yp_2 yp_3 yp_4 yp_5 HKe51 HPne51 le51 us_le51
      exact ⟨_, rfl, (kids_of_own lw52.out).to dn_l, HPw52.out, HKw52.out⟩
    | true =>
     simp only [if_true] at hG
     cases hy : linesA s st2a (bs []) with
     | none => rw [hy] at hG; simp at hG
     | some st3 =>
      rw [hy] at hG
      simp only [Option.bind_some] at hG
      cases hm : rec .expr st3 with
      | none => rw [hm] at hG; simp at hG
      | some y =>
       rw [hm] at hG
       obtain ⟨m, st4⟩ := y
       simp only [Option.bind_some] at hG
       have HM := zh (HRec.out _ _ _ hm); have HF := zh hG; have HY : Hid (linesF s ⟨#[]⟩ (s.size + 2) st2a = some st3) := zh hy
       clear hm hG hy
       have l_p := h_lt HPr.out.row
       go_wp2_with fail
       clear l_p
       refine (ok_any HPr.out).mono ?_
       rintro r w' ⟨rfl, hw'⟩
       rw [hw']
       clear hw'
       have l_p := h_lt HPr.out.row
       go_wp2_with fail
       clear l_p
       refine (take_any HPr.out HX.out).mono ?_
       rintro r e51 ⟨rfl, hp, hk⟩
       have HKe51 := zh (HKr.out.trans hk (by simp))
       have le51 := zh (OwnL.kp nodeL HL1.out hk (by simp [ns_l_p]))
       have us_le51 := Nat.le_trans us_l hk.size
       have HPne51 := zh hp
       clear hp
       clear hk HKr HL1 us_l HPr
       have l_p := h_lt HPne51.out.row
       go_wp2_with fail
       clear l_p
       refine (lines_any HPne51.out HY.out).mono ?_
       rintro r e52 ⟨rfl, hp, hk⟩
       have HKe52 := zh (HKe51.out.trans hk (by simp))
       have le52 := zh (OwnL.kp nodeL le51.out hk (by simp [ns_l_p]))
       have us_le52 := Nat.le_trans us_le51 hk.size
       have HPne52 := zh hp
       clear hp
       clear hk HKe51 le51 us_le51 HPne51
       have l_p := h_lt HPne52.out.row
       go_wp2_with fail
       clear l_p
       refine (HM.out _ HPne52.out).mono ?_
       rintro r e53 ⟨v, rfl, hn, hp, hk⟩
       have HKe53 := zh (HKe52.out.trans hk (by simp))
       have le53 := zh (OwnL.kp nodeL le52.out hk (by simp [ns_l_p]))
       have us_le53 := Nat.le_trans us_le52 hk.size
       have HPne53 := zh hp
       have me53 := zh hn.seg
       have o_m : w.heap.size ≤ e52.heap.size := HKe52.out.size
       have ns_m_p : ¬ (Seg e52.heap.size e53.heap.size) (p) := fun h => Nat.not_lt_of_le h.1 (h_lt HPne52.out.row)
       have up_m : ∀ g, (Seg e52.heap.size e53.heap.size) g → g < e53.heap.size := fun _ h => h.2
       have dn_m : ∀ g, (Seg e52.heap.size e53.heap.size) g → w.heap.size ≤ g := fun _ h => Nat.le_trans o_m h.1
       have us_l_m := us_le52
       obtain ⟨mt, mm, ma, ml, mc, mr, mi, rfl, -, -⟩ := hn.shape
       clear hn hp
       clear hk HKe52 le52 us_le52 HPne52
       have l_p := h_lt HPne53.out.row
       go_wp2_with (
        at_builtin
        go_loud (
         refine list_at (fun W => Keeps [] e53 W ∧ W.heap[e53.heap.size]? = some (.cells #[.int .i64 m.kind, .string mt, .float .f64 mm, .slice ma ml mc, .complex .f64 mr mi] 50 (0, 0))) ⟨(by with_reducible repeat (first | exact k0 _ _ | refine kA ?_ _ | refine kD ?_ | refine kS ?_ (by simp) | refine kM ?_ (by simp))), (by simp only [hS, hA, hD, hM, World.size_setCell, World.size_drew, reduceIte, Option.map_some, Obj.put] <;> rfl)⟩ ?_
         rintro w54 ⟨Kw54, cw54_G⟩
         have ⟨n_p_G, n_G_p⟩ := zne l_p
         have o_G : w.heap.size ≤ e53.heap.size := HKe53.out.size
         have g_G : 14 < e53.heap.size := Nat.lt_trans g_p l_p
         have ns_l_G : ¬ (T) (e53.heap.size) := fun h => Nat.not_lt_of_le (us_le53) (up_l _ h)
         have ns_m_G : ¬ (Seg e52.heap.size e53.heap.size) (e53.heap.size) := fun h => Nat.not_lt_of_le ((Nat.le_refl e53.heap.size)) (up_m _ h)
         have HKw54 := zh (HKe53.out.trans Kw54 (by simp))
         have HPw54 := zh (HPne53.out.keep Kw54)
         have lw54 := zh (OwnL.kp nodeL le53.out Kw54 (by simp))
         have us_lw54 := Nat.le_trans us_le53 Kw54.size
         have mw54 := zh (me53.out.kp Kw54 (by simp))
         have us_mw54 := Nat.le_trans (Nat.le_refl e53.heap.size) Kw54.size
         have Rw54_G := zh cw54_G
         clear Kw54 cw54_G l_p HKe53 HPne53 le53 us_le53 me53
         refine app_node rfl (.tmp 29) (.tmp 32) rfl rfl rfl lw54.out Rw54_G.out mw54.out (fun g hs ht => Nat.not_lt_of_le hs.1 (Nat.lt_of_lt_of_le (up_l g ht) us_l_m)) (fun g hg => Nat.lt_of_lt_of_le (up_m g hg) us_mw54) (fun g hg => Nat.lt_of_lt_of_le (up_l g hg) us_lw54) HKw54.out.size (by omega) ?_))
       intro ve55 e55 fl hfl hk hown
       have Re55_G := zh (hk.at Rw54_G.out (fun h => ns_l_G (hfl _ h)))
       have HKe55 := zh (HKw54.out.trans hk (fun x h => .inr (dn_l x (hfl x h))))
       have HPe55 := zh (HPw54.out.keepN hk (fun h => ns_l_p (hfl _ h)) (fun x h => Nat.lt_of_lt_of_le g_0 (dn_l x (hfl x h))))
       have us_le55 := Nat.le_trans us_lw54 hk.size
       have us_me55 := Nat.le_trans us_mw54 hk.size
       have HOe55 := zh hown
       clear hown hk hfl Rw54_G us_lw54 us_mw54
       have l_p := h_lt HPe55.out.row
       have l_G := h_lt Re55_G.out
       go_wp2_with fail
       go_roundg f
       case measure => omega
       case rel =>
        exact ⟨l ++ [m], st4, _, e55.heap.size, HF.out, by rw [List.length_append, List.length_singleton]; omega, HOe55.out,
         fun x h => h.elim (fun h => Nat.lt_of_lt_of_le (up_l x h) us_le55) fun h => h.elim (fun h => Nat.lt_of_lt_of_le (up_m x h) us_me55) fun h => h.2,
         Nat.le_refl _, fun x h => h.elim (dn_l x) fun h => h.elim (dn_m x) fun h => Nat.le_trans HKw54.out.size h.1,
         fun h => h.elim ns_l_p fun h => h.elim ns_m_p fun h => Nat.not_lt_of_le h.1 (h_lt HPw54.out.row), HPe55.out, HKe55.out⟩
end Go.Proofs.YtkfillfkbhbbjaaGreatDoor
namespace Go.Proofs.YtkfillfkbhbbjaaGreatDoor
open Go.RowKit

/-- What a function of the parser does that hands back a list of nodes (args: behind the parser). -/
def Lists (s : ByteArray) (p : Nat) (st st' : PSt) (l : List Node) (f : FuncId) (args : List Value) : Prop :=
 ∀ w, PP s p st w → Calls Tryz.prog f (.pointer (some ⟨p, 0, none⟩) :: args).toArray w fun r w' => ∃ v, r = .returned v ∧ KidsR w' (fun g => w.heap.size ≤ g) l v ∧ PP s p st' w' ∧ Keeps [p] w w'
theorem list_any {s : ByteArray} {p : Nat} {st st' : PSt} {l : List Node} {rec : Rec} {top : Bool} (hrec : ∀ st st' n, rec .expr st = some (n, st') → Hands s p st st' n 109) (hx : listF s rec top st = some (l, st')) : Lists s p st st' l 224 [.bool top] := by
 intro w h
 obtain ⟨pos, opn, ng⟩ := st
 simp only [listF] at hx
 cases h1 : rec .expr ⟨pos, opn, ng && top⟩ with
 | none => rw [h1] at hx; simp at hx
 | some y =>
  rw [h1] at hx
  obtain ⟨n, st1⟩ := y
  simp only [Option.bind_eq_bind, Option.bind_some] at hx
  cases h2 : moreF s rec 50 [n] st1 with
  | none => rw [h2] at hx; simp at hx
  | some y =>
   rw [h2] at hx
   obtain ⟨l2, st2⟩ := y
   simp only [Option.bind_some, Option.some.injEq, Prod.mk.injEq] at hx
   obtain ⟨rfl, rfl⟩ := hx
   cases ng
   ·exact list_false hrec h1 h2 w h
   ·exact list_true hrec h1 h2 w h

theorem inside_any {s : ByteArray} {p : Nat} {st st1 st2 : PSt} {l : List Node} {x : ByteArray} (hl : Lists s p st st1 l 224 [.bool false]) (hw : wantF s st1 x = some st2) : Lists s p st st2 l 189 [.string x] := by
 intro w h
 have g_p := h.p
 have HP0 := zh h; have HK0 := zh (Keeps.refl [p] w); have HS1 := zh hl; have HX := zh hw
 clear h hl hw
 go_enter Tryz.func189, Tryz.ntmps189
 have l_p := h_lt HP0.out.row
 go_wp2_with fail
 clear l_p
 refine (HS1.out _ HP0.out).mono ?_
 rintro r e1 ⟨v, rfl, hn, hp, hk⟩
 have HKe1 := zh (HK0.out.trans hk (by simp))
 have HPne1 := zh hp
 have le1 := zh hn.seg
 have o_l : w.heap.size ≤ w.heap.size := Nat.le_refl _
 have ns_l_p : ¬ (Seg w.heap.size e1.heap.size) (p) := fun h => Nat.not_lt_of_le h.1 (h_lt HP0.out.row)
 have up_l : ∀ g, (Seg w.heap.size e1.heap.size) g → g < e1.heap.size := fun _ h => h.2
 have dn_l : ∀ g, (Seg w.heap.size e1.heap.size) g → w.heap.size ≤ g := fun _ h => Nat.le_trans o_l h.1
 obtain ⟨la, ll, lc, rfl⟩ := hn.slice
 clear hn hp
 clear hk HK0 HP0
 have l_p := h_lt HPne1.out.row
 go_wp2_with fail
 clear l_p
 refine (want_any HPne1.out HX.out).mono ?_
 rintro r e2 ⟨rfl, hp, hk⟩
 have HKe2 := zh (HKe1.out.trans hk (by simp))
 have le2 := zh (le1.out.kp hk (by simp [ns_l_p]))
 have us_le2 := Nat.le_trans (Nat.le_refl e1.heap.size) hk.size
 have HPne2 := zh hp
 clear hp
 clear hk HKe1 le1 HPne1
 have l_p := h_lt HPne2.out.row
 go_wp2_with fail
 refine ret_at (v := .slice la ll lc) (fun W => Keeps [] e2 W) (by with_reducible repeat (first | exact k0 _ _ | refine kA ?_ _ | refine kD ?_ | refine kS ?_ (by simp) | refine kM ?_ (by simp))) (fun w3 hW => ?_) rfl (fun w3 hW => ?_)
 ·have Kw3 : Keeps [] e2 w3 := hW
  simp [results, Tryz.results189, go_sem]
 ·have Kw3 : Keeps [] e2 w3 := hW
  have HKw3 := zh (HKe2.out.trans Kw3 (by simp))
  have HPw3 := zh (HPne2.out.keep Kw3)
  have lw3 := zh (le2.out.kp Kw3 (by simp))
  have us_lw3 := Nat.le_trans us_le2 Kw3.size
  clear Kw3 l_p HKe2 HPne2 le2 us_le2
  exact ⟨_, rfl, lw3.out.to dn_l, HPw3.out, HKw3.out⟩
end Go.Proofs.YtkfillfkbhbbjaaGreatDoor
namespace Go.Proofs.YtkfillfkbhbbjaaGreatDoor
open Go.RowKit

theorem operand_num {s : ByteArray} {p : Nat} {st : PSt} {tx : ByteArray} {nm fr te : Nat} (ht : nextF s st.pos true = some ⟨2, tx, nm, fr, te⟩)  : Hands s p st ⟨te, st.opn, st.ng⟩ (.mk 1 ⟨#[]⟩ nm [] (placeOf s fr).1 (placeOf s fr).2) 294 := by
 intro w h
 have g_p := h.p
 obtain ⟨le1, le2, -⟩ := nextF_le ht h.le
 simp only at le1 le2
 have le3 := Nat.le_trans le1 le2
 have HP0 := zh h; have HK0 := zh (Keeps.refl [p] w); have HT := zh ht
 clear h ht le1

 go_enter Tryz.func294, Tryz.ntmps294
 have l_p := h_lt HP0.out.row
 go_wp2_with fail
 refine calls_at (fun W => Keeps [] w W ∧ W.heap[w.heap.size]? = some (.cells #[.int .i64 0, .string ⟨#[]⟩, .float .f64 0, .slice none 0 0, .complex .f64 0 0] 50 (0, 0))) ⟨(by with_reducible repeat (first | exact k0 _ _ | refine kA ?_ _ | refine kD ?_ | refine kS ?_ (by simp) | refine kM ?_ (by simp))), (by simp only [hS, hA, hD, hM, World.size_setCell, World.size_drew, reduceIte, Option.map_some, Obj.put] <;> rfl)⟩ ?_
 rintro w1 ⟨Kw1, cw1_R⟩
 have ⟨n_p_R, n_R_p⟩ := zne l_p
 have o_R : w.heap.size ≤ w.heap.size := Nat.le_refl _
 have g_R : 14 < w.heap.size := Nat.lt_trans g_p l_p
 have HKw1 := zh (HK0.out.trans Kw1 (by simp))
 have HPw1 := zh (HP0.out.keep Kw1)
 have Rw1_R := zh cw1_R
 clear Kw1 cw1_R l_p HK0 HP0
 refine (see_any HPw1.out HT.out).mono ?_
 rintro r e2 ⟨rfl, hk⟩
 have Re2_R := zh (hk.at Rw1_R.out (by simp))
 have HKe2 := zh (HKw1.out.trans hk (by simp))
 have HPe2 := zh (HPw1.out.keep hk)
 clear hk Rw1_R HKw1 HPw1
 have l_p := h_lt HPe2.out.row
 have l_R := h_lt Re2_R.out
 go_wp2_with fail
 refine calls_at (fun W => Keeps [] e2 W ∧ W.heap[e2.heap.size]? = some (.cells #[.int .i64 2, .string tx, .float .f64 nm, .int .i64 fr, .int .i64 te] 90 (0, 0))) ⟨(by with_reducible repeat (first | exact k0 _ _ | refine kA ?_ _ | refine kD ?_ | refine kS ?_ (by simp) | refine kM ?_ (by simp))), (by simp only [hS, hA, hD, hM, World.size_setCell, World.size_drew, reduceIte, Option.map_some, Obj.put] <;> rfl)⟩ ?_
 rintro w3 ⟨Kw3, cw3_T⟩
 have ⟨n_p_T, n_T_p⟩ := zne l_p
 have ⟨n_R_T, n_T_R⟩ := zne l_R
 have o_T : w.heap.size ≤ e2.heap.size := HKe2.out.size
 have g_T : 14 < e2.heap.size := Nat.lt_trans g_p l_p
 have Rw3_R := zh (Kw3.at Re2_R.out (by simp))
 have HKw3 := zh (HKe2.out.trans Kw3 (by simp))
 have HPw3 := zh (HPe2.out.keep Kw3)
 have Rw3_T := zh cw3_T
 clear Kw3 cw3_T l_p l_R Re2_R HKe2 HPe2
 refine (ok_any HPw3.out).mono ?_
 rintro r w' ⟨rfl, hw'⟩
 rw [hw']
 clear hw'
 have l_p := h_lt HPw3.out.row
 have l_R := h_lt Rw3_R.out
 obtain ⟨l_T, xT_0, xT_1, xT_2, xT_3, xT_4, yT_0, yT_1, yT_2, yT_3, yT_4⟩ := cf5 Rw3_T.out
 go_wp2_with fail
 clear l_p l_R l_T xT_0 xT_1 xT_2 xT_3 xT_4 yT_0 yT_1 yT_2 yT_3 yT_4
 refine (place_tok HPw3.out ⟨2, tx, nm, fr, te⟩ le3).mono ?_
 rintro r e4 ⟨rfl, hk⟩
 have Re4_R := zh (hk.at Rw3_R.out (by simp))
 have Re4_T := zh (hk.at Rw3_T.out (by simp))
 have HKe4 := zh (HKw3.out.trans hk (by simp))
 have HPe4 := zh (HPw3.out.keep hk)
 clear hk Rw3_R Rw3_T HKw3 HPw3
 obtain ⟨l_p, xp_0, xp_1, xp_2, xp_3, xp_4, xp_5, yp_0, yp_1, yp_2, yp_3, yp_4, yp_5⟩ := cf6 HPe4.out.row
 obtain ⟨l_R, xR_0, xR_1, xR_2, xR_3, xR_4, yR_0, yR_1, yR_2, yR_3, yR_4⟩ := cf5 Re4_R.out
 obtain ⟨l_T, xT_0, xT_1, xT_2, xT_3, xT_4, yT_0, yT_1, yT_2, yT_3, yT_4⟩ := cf5 Re4_T.out
 go_wp2_with fail
 refine ret_at (v := .agg #[.int .i64 1, .string ⟨#[]⟩, .float .f64 nm, .slice none 0 0, .complex .f64 (placeOf s fr).1 (placeOf s fr).2]) (fun W => Keeps [p, w.heap.size] e4 W ∧ W.heap[p]? = some (.cells #[.string s, .int .i64 te, .int .i64 st.opn, .bool st.ng, .int .i64 0, .complex .f64 0 0] 87 (0, 0)) ∧ W.heap[w.heap.size]? = some (.cells #[.int .i64 1, .string ⟨#[]⟩, .float .f64 nm, .slice none 0 0, .complex .f64 (placeOf s fr).1 (placeOf s fr).2] 50 (0, 0))) ⟨(by with_reducible repeat (first | exact k0 _ _ | refine kA ?_ _ | refine kD ?_ | refine kS ?_ (by simp) | refine kM ?_ (by simp))), (by simp only [hS, hA, hD, hM, reduceIte, Option.map_some, Obj.put, HPe4.out.row, Re4_R.out, n_p_R, n_R_p, Nat.ne_of_lt l_p, Nat.ne_of_gt l_p, Nat.ne_of_lt l_R, Nat.ne_of_gt l_R] <;> rfl), (by simp only [hS, hA, hD, hM, reduceIte, Option.map_some, Obj.put, HPe4.out.row, Re4_R.out, n_p_R, n_R_p, Nat.ne_of_lt l_p, Nat.ne_of_gt l_p, Nat.ne_of_lt l_R, Nat.ne_of_gt l_R] <;> rfl)⟩ (fun w5 hW => ?_) rfl (fun w5 hW => ?_)
 ·obtain ⟨Kw5, cw5_p, cw5_R⟩ := hW
  have q0 := cell_of_heap cw5_R 0
  have q1 := cell_of_heap cw5_R 1
  have q2 := cell_of_heap cw5_R 2
  have q3 := cell_of_heap cw5_R 3
  have q4 := cell_of_heap cw5_R 4
  simp at q0 q1 q2 q3 q4
  simp [results, Tryz.results294, go_sem, q0, q1, q2, q3, q4]
 ·obtain ⟨Kw5, cw5_p, cw5_R⟩ := hW
  have Rw5_T := zh (Kw5.at Re4_T.out (by simp [n_T_p, n_T_R]))
  have HKw5 := zh (HKe4.out.trans Kw5 (by simp [o_R]))
  have HPw5 : Hid (PP s p ⟨te, st.opn, st.ng⟩ w5) := zh (HPe4.out.upd Kw5 (by simp [g_p, g_R]) cw5_p (by first | assumption | exact HPe4.out.le) HPe4.out.ob)
  have Rw5_R := zh cw5_R
  clear Kw5 cw5_p cw5_R l_p xp_0 xp_1 xp_2 xp_3 xp_4 xp_5 yp_0 yp_1 yp_2 yp_3 yp_4 yp_5 l_R xR_0 xR_1 xR_2 xR_3 xR_4 yR_0 yR_1 yR_2 yR_3 yR_4 l_T xT_0 xT_1 xT_2 xT_3 xT_4 yT_0 yT_1 yT_2 yT_3 yT_4 Re4_T HKe4 HPe4 Re4_R
  exact ⟨_, rfl, .mk .nil, HPw5.out, HKw5.out⟩

theorem operand_text {s : ByteArray} {p : Nat} {st : PSt} {tx : ByteArray} {nm fr te : Nat} (ht : nextF s st.pos true = some ⟨3, tx, nm, fr, te⟩) (h256 : (tx.size : Int) ≤ 256) : Hands s p st ⟨te, st.opn, st.ng⟩ (.mk 2 tx 0 [] (placeOf s fr).1 (placeOf s fr).2) 294 := by
 intro w h
 have g_p := h.p
 obtain ⟨le1, le2, -⟩ := nextF_le ht h.le
 simp only at le1 le2
 have le3 := Nat.le_trans le1 le2
 have HP0 := zh h; have HK0 := zh (Keeps.refl [p] w); have HT := zh ht
 clear h ht le1

 go_enter Tryz.func294, Tryz.ntmps294
 have l_p := h_lt HP0.out.row
 go_wp2_with fail
 refine calls_at (fun W => Keeps [] w W ∧ W.heap[w.heap.size]? = some (.cells #[.int .i64 0, .string ⟨#[]⟩, .float .f64 0, .slice none 0 0, .complex .f64 0 0] 50 (0, 0))) ⟨(by with_reducible repeat (first | exact k0 _ _ | refine kA ?_ _ | refine kD ?_ | refine kS ?_ (by simp) | refine kM ?_ (by simp))), (by simp only [hS, hA, hD, hM, World.size_setCell, World.size_drew, reduceIte, Option.map_some, Obj.put] <;> rfl)⟩ ?_
 rintro w1 ⟨Kw1, cw1_R⟩
 have ⟨n_p_R, n_R_p⟩ := zne l_p
 have o_R : w.heap.size ≤ w.heap.size := Nat.le_refl _
 have g_R : 14 < w.heap.size := Nat.lt_trans g_p l_p
 have HKw1 := zh (HK0.out.trans Kw1 (by simp))
 have HPw1 := zh (HP0.out.keep Kw1)
 have Rw1_R := zh cw1_R
 clear Kw1 cw1_R l_p HK0 HP0
 refine (see_any HPw1.out HT.out).mono ?_
 rintro r e2 ⟨rfl, hk⟩
 have Re2_R := zh (hk.at Rw1_R.out (by simp))
 have HKe2 := zh (HKw1.out.trans hk (by simp))
 have HPe2 := zh (HPw1.out.keep hk)
 clear hk Rw1_R HKw1 HPw1
 have l_p := h_lt HPe2.out.row
 have l_R := h_lt Re2_R.out
 go_wp2_with fail
 refine calls_at (fun W => Keeps [] e2 W ∧ W.heap[e2.heap.size]? = some (.cells #[.int .i64 3, .string tx, .float .f64 nm, .int .i64 fr, .int .i64 te] 90 (0, 0))) ⟨(by with_reducible repeat (first | exact k0 _ _ | refine kA ?_ _ | refine kD ?_ | refine kS ?_ (by simp) | refine kM ?_ (by simp))), (by simp only [hS, hA, hD, hM, World.size_setCell, World.size_drew, reduceIte, Option.map_some, Obj.put] <;> rfl)⟩ ?_
 rintro w3 ⟨Kw3, cw3_T⟩
 have ⟨n_p_T, n_T_p⟩ := zne l_p
 have ⟨n_R_T, n_T_R⟩ := zne l_R
 have o_T : w.heap.size ≤ e2.heap.size := HKe2.out.size
 have g_T : 14 < e2.heap.size := Nat.lt_trans g_p l_p
 have Rw3_R := zh (Kw3.at Re2_R.out (by simp))
 have HKw3 := zh (HKe2.out.trans Kw3 (by simp))
 have HPw3 := zh (HPe2.out.keep Kw3)
 have Rw3_T := zh cw3_T
 clear Kw3 cw3_T l_p l_R Re2_R HKe2 HPe2
 refine (ok_any HPw3.out).mono ?_
 rintro r w' ⟨rfl, hw'⟩
 rw [hw']
 clear hw'
 have l_p := h_lt HPw3.out.row
 have l_R := h_lt Rw3_R.out
 obtain ⟨l_T, xT_0, xT_1, xT_2, xT_3, xT_4, yT_0, yT_1, yT_2, yT_3, yT_4⟩ := cf5 Rw3_T.out
 go_wp2_with fail
 clear l_p l_R l_T xT_0 xT_1 xT_2 xT_3 xT_4 yT_0 yT_1 yT_2 yT_3 yT_4
 refine (place_tok HPw3.out ⟨3, tx, nm, fr, te⟩ le3).mono ?_
 rintro r e4 ⟨rfl, hk⟩
 have Re4_R := zh (hk.at Rw3_R.out (by simp))
 have Re4_T := zh (hk.at Rw3_T.out (by simp))
 have HKe4 := zh (HKw3.out.trans hk (by simp))
 have HPe4 := zh (HPw3.out.keep hk)
 clear hk Rw3_R Rw3_T HKw3 HPw3
 obtain ⟨l_p, xp_0, xp_1, xp_2, xp_3, xp_4, xp_5, yp_0, yp_1, yp_2, yp_3, yp_4, yp_5⟩ := cf6 HPe4.out.row
 obtain ⟨l_R, xR_0, xR_1, xR_2, xR_3, xR_4, yR_0, yR_1, yR_2, yR_3, yR_4⟩ := cf5 Re4_R.out
 obtain ⟨l_T, xT_0, xT_1, xT_2, xT_3, xT_4, yT_0, yT_1, yT_2, yT_3, yT_4⟩ := cf5 Re4_T.out
 go_wp2_with fail
 refine ret_at (v := .agg #[.int .i64 2, .string tx, .float .f64 0, .slice none 0 0, .complex .f64 (placeOf s fr).1 (placeOf s fr).2]) (fun W => Keeps [p, w.heap.size] e4 W ∧ W.heap[p]? = some (.cells #[.string s, .int .i64 te, .int .i64 st.opn, .bool st.ng, .int .i64 0, .complex .f64 0 0] 87 (0, 0)) ∧ W.heap[w.heap.size]? = some (.cells #[.int .i64 2, .string tx, .float .f64 0, .slice none 0 0, .complex .f64 (placeOf s fr).1 (placeOf s fr).2] 50 (0, 0))) ⟨(by with_reducible repeat (first | exact k0 _ _ | refine kA ?_ _ | refine kD ?_ | refine kS ?_ (by simp) | refine kM ?_ (by simp))), (by simp only [hS, hA, hD, hM, reduceIte, Option.map_some, Obj.put, HPe4.out.row, Re4_R.out, n_p_R, n_R_p, Nat.ne_of_lt l_p, Nat.ne_of_gt l_p, Nat.ne_of_lt l_R, Nat.ne_of_gt l_R] <;> rfl), (by simp only [hS, hA, hD, hM, reduceIte, Option.map_some, Obj.put, HPe4.out.row, Re4_R.out, n_p_R, n_R_p, Nat.ne_of_lt l_p, Nat.ne_of_gt l_p, Nat.ne_of_lt l_R, Nat.ne_of_gt l_R] <;> rfl)⟩ (fun w5 hW => ?_) rfl (fun w5 hW => ?_)
 ·obtain ⟨Kw5, cw5_p, cw5_R⟩ := hW
  have q0 := cell_of_heap cw5_R 0
  have q1 := cell_of_heap cw5_R 1
  have q2 := cell_of_heap cw5_R 2
  have q3 := cell_of_heap cw5_R 3
  have q4 := cell_of_heap cw5_R 4
  simp at q0 q1 q2 q3 q4
  simp [results, Tryz.results294, go_sem, q0, q1, q2, q3, q4]
 ·obtain ⟨Kw5, cw5_p, cw5_R⟩ := hW
  have Rw5_T := zh (Kw5.at Re4_T.out (by simp [n_T_p, n_T_R]))
  have HKw5 := zh (HKe4.out.trans Kw5 (by simp [o_R]))
  have HPw5 : Hid (PP s p ⟨te, st.opn, st.ng⟩ w5) := zh (HPe4.out.upd Kw5 (by simp [g_p, g_R]) cw5_p (by first | assumption | exact HPe4.out.le) HPe4.out.ob)
  have Rw5_R := zh cw5_R
  clear Kw5 cw5_p cw5_R l_p xp_0 xp_1 xp_2 xp_3 xp_4 xp_5 yp_0 yp_1 yp_2 yp_3 yp_4 yp_5 l_R xR_0 xR_1 xR_2 xR_3 xR_4 yR_0 yR_1 yR_2 yR_3 yR_4 l_T xT_0 xT_1 xT_2 xT_3 xT_4 yT_0 yT_1 yT_2 yT_3 yT_4 Re4_T HKe4 HPe4 Re4_R
  exact ⟨_, rfl, .mk .nil, HPw5.out, HKw5.out⟩

theorem operand_var {s : ByteArray} {p : Nat} {st : PSt} {tx : ByteArray} {nm fr te : Nat} (ht : nextF s st.pos true = some ⟨5, tx, nm, fr, te⟩) {st2 : PSt} (hx : takeF s ⟨te, st.opn, st.ng⟩ ⟨#[91]⟩ = some (false, st2)) : Hands s p st st2 (.mk 4 tx 0 [] (placeOf s fr).1 (placeOf s fr).2) 294 := by
 intro w h
 have g_p := h.p
 obtain ⟨le1, le2, -⟩ := nextF_le ht h.le
 simp only at le1 le2
 have le3 := Nat.le_trans le1 le2
 have HP0 := zh h; have HK0 := zh (Keeps.refl [p] w); have HT := zh ht; have HX := zh hx
 clear h ht le1 hx

 go_enter Tryz.func294, Tryz.ntmps294
 have l_p := h_lt HP0.out.row
 go_wp2_with fail
 refine calls_at (fun W => Keeps [] w W ∧ W.heap[w.heap.size]? = some (.cells #[.int .i64 0, .string ⟨#[]⟩, .float .f64 0, .slice none 0 0, .complex .f64 0 0] 50 (0, 0))) ⟨(by with_reducible repeat (first | exact k0 _ _ | refine kA ?_ _ | refine kD ?_ | refine kS ?_ (by simp) | refine kM ?_ (by simp))), (by simp only [hS, hA, hD, hM, World.size_setCell, World.size_drew, reduceIte, Option.map_some, Obj.put] <;> rfl)⟩ ?_
 rintro w1 ⟨Kw1, cw1_R⟩
 have ⟨n_p_R, n_R_p⟩ := zne l_p
 have o_R : w.heap.size ≤ w.heap.size := Nat.le_refl _
 have g_R : 14 < w.heap.size := Nat.lt_trans g_p l_p
 have HKw1 := zh (HK0.out.trans Kw1 (by simp))
 have HPw1 := zh (HP0.out.keep Kw1)
 have Rw1_R := zh cw1_R
 clear Kw1 cw1_R l_p HK0 HP0
 refine (see_any HPw1.out HT.out).mono ?_
 rintro r e2 ⟨rfl, hk⟩
 have Re2_R := zh (hk.at Rw1_R.out (by simp))
 have HKe2 := zh (HKw1.out.trans hk (by simp))
 have HPe2 := zh (HPw1.out.keep hk)
 clear hk Rw1_R HKw1 HPw1
 have l_p := h_lt HPe2.out.row
 have l_R := h_lt Re2_R.out
 go_wp2_with fail
 refine calls_at (fun W => Keeps [] e2 W ∧ W.heap[e2.heap.size]? = some (.cells #[.int .i64 5, .string tx, .float .f64 nm, .int .i64 fr, .int .i64 te] 90 (0, 0))) ⟨(by with_reducible repeat (first | exact k0 _ _ | refine kA ?_ _ | refine kD ?_ | refine kS ?_ (by simp) | refine kM ?_ (by simp))), (by simp only [hS, hA, hD, hM, World.size_setCell, World.size_drew, reduceIte, Option.map_some, Obj.put] <;> rfl)⟩ ?_
 rintro w3 ⟨Kw3, cw3_T⟩
 have ⟨n_p_T, n_T_p⟩ := zne l_p
 have ⟨n_R_T, n_T_R⟩ := zne l_R
 have o_T : w.heap.size ≤ e2.heap.size := HKe2.out.size
 have g_T : 14 < e2.heap.size := Nat.lt_trans g_p l_p
 have Rw3_R := zh (Kw3.at Re2_R.out (by simp))
 have HKw3 := zh (HKe2.out.trans Kw3 (by simp))
 have HPw3 := zh (HPe2.out.keep Kw3)
 have Rw3_T := zh cw3_T
 clear Kw3 cw3_T l_p l_R Re2_R HKe2 HPe2
 refine (ok_any HPw3.out).mono ?_
 rintro r w' ⟨rfl, hw'⟩
 rw [hw']
 clear hw'
 have l_p := h_lt HPw3.out.row
 have l_R := h_lt Rw3_R.out
 obtain ⟨l_T, xT_0, xT_1, xT_2, xT_3, xT_4, yT_0, yT_1, yT_2, yT_3, yT_4⟩ := cf5 Rw3_T.out
 go_wp2_with fail
 clear l_p l_R l_T xT_0 xT_1 xT_2 xT_3 xT_4 yT_0 yT_1 yT_2 yT_3 yT_4
 refine (place_tok HPw3.out ⟨5, tx, nm, fr, te⟩ le3).mono ?_
 rintro r e4 ⟨rfl, hk⟩
 have Re4_R := zh (hk.at Rw3_R.out (by simp))
 have Re4_T := zh (hk.at Rw3_T.out (by simp))
 have HKe4 := zh (HKw3.out.trans hk (by simp))
 have HPe4 := zh (HPw3.out.keep hk)
 clear hk Rw3_R Rw3_T HKw3 HPw3
 obtain ⟨l_p, xp_0, xp_1, xp_2, xp_3, xp_4, xp_5, yp_0, yp_1, yp_2, yp_3, yp_4, yp_5⟩ := cf6 HPe4.out.row
 have l_R := h_lt Re4_R.out
 obtain ⟨l_T, xT_0, xT_1, xT_2, xT_3, xT_4, yT_0, yT_1, yT_2, yT_3, yT_4⟩ := cf5 Re4_T.out
 go_wp2_with fail
 refine calls_at (fun W => Keeps [p] e4 W ∧ W.heap[p]? = some (.cells #[.string s, .int .i64 te, .int .i64 st.opn, .bool st.ng, .int .i64 0, .complex .f64 0 0] 87 (0, 0))) ⟨(by with_reducible repeat (first | exact k0 _ _ | refine kA ?_ _ | refine kD ?_ | refine kS ?_ (by simp) | refine kM ?_ (by simp))), (by simp only [hS, hA, hD, hM, reduceIte, Option.map_some, Obj.put, HPe4.out.row, Nat.ne_of_lt l_p, Nat.ne_of_gt l_p] <;> rfl)⟩ ?_
 rintro w5 ⟨Kw5, cw5_p⟩
 have Rw5_R := zh (Kw5.at Re4_R.out (by simp [n_R_p]))
 have Rw5_T := zh (Kw5.at Re4_T.out (by simp [n_T_p]))
 have HKw5 := zh (HKe4.out.trans Kw5 (by simp))
 have HPw5 : Hid (PP s p ⟨te, st.opn, st.ng⟩ w5) := zh (HPe4.out.upd Kw5 (by simp [g_p]) cw5_p (by first | assumption | exact HPe4.out.le) HPe4.out.ob)
 clear Kw5 cw5_p l_p xp_0 xp_1 xp_2 xp_3 xp_4 xp_5 yp_0 yp_1 yp_2 yp_3 yp_4 yp_5 l_R l_T xT_0 xT_1 xT_2 xT_3 xT_4 yT_0 yT_1 yT_2 yT_3 yT_4 Re4_R Re4_T HKe4 HPe4
 refine (take_any HPw5.out HX.out).mono ?_
 rintro r e6 ⟨rfl, hp, hk⟩
 have Re6_R := zh (hk.at Rw5_R.out (by simp [n_R_p]))
 have Re6_T := zh (hk.at Rw5_T.out (by simp [n_T_p]))
 have HKe6 := zh (HKw5.out.trans hk (by simp))
 have HPne6 := zh hp
 clear hp
 clear hk Rw5_R Rw5_T HKw5 HPw5
 have l_p := h_lt HPne6.out.row
 obtain ⟨l_R, xR_0, xR_1, xR_2, xR_3, xR_4, yR_0, yR_1, yR_2, yR_3, yR_4⟩ := cf5 Re6_R.out
 obtain ⟨l_T, xT_0, xT_1, xT_2, xT_3, xT_4, yT_0, yT_1, yT_2, yT_3, yT_4⟩ := cf5 Re6_T.out
 go_wp2_with fail
 refine ret_at (v := .agg #[.int .i64 4, .string tx, .float .f64 0, .slice none 0 0, .complex .f64 (placeOf s fr).1 (placeOf s fr).2]) (fun W => Keeps [w.heap.size] e6 W ∧ W.heap[w.heap.size]? = some (.cells #[.int .i64 4, .string tx, .float .f64 0, .slice none 0 0, .complex .f64 (placeOf s fr).1 (placeOf s fr).2] 50 (0, 0))) ⟨(by with_reducible repeat (first | exact k0 _ _ | refine kA ?_ _ | refine kD ?_ | refine kS ?_ (by simp) | refine kM ?_ (by simp))), (by simp only [hS, hA, hD, hM, reduceIte, Option.map_some, Obj.put, Re6_R.out, Nat.ne_of_lt l_R, Nat.ne_of_gt l_R] <;> rfl)⟩ (fun w7 hW => ?_) rfl (fun w7 hW => ?_)
 ·obtain ⟨Kw7, cw7_R⟩ := hW
  have q0 := cell_of_heap cw7_R 0
  have q1 := cell_of_heap cw7_R 1
  have q2 := cell_of_heap cw7_R 2
  have q3 := cell_of_heap cw7_R 3
  have q4 := cell_of_heap cw7_R 4
  simp at q0 q1 q2 q3 q4
  simp [results, Tryz.results294, go_sem, q0, q1, q2, q3, q4]
 ·obtain ⟨Kw7, cw7_R⟩ := hW
  have Rw7_T := zh (Kw7.at Re6_T.out (by simp [n_T_R]))
  have HKw7 := zh (HKe6.out.trans Kw7 (by simp [o_R]))
  have HPw7 := zh (HPne6.out.keepN Kw7 (by simp [n_p_R]) (by simp [g_R]))
  have Rw7_R := zh cw7_R
  clear Kw7 cw7_R l_p l_R xR_0 xR_1 xR_2 xR_3 xR_4 yR_0 yR_1 yR_2 yR_3 yR_4 l_T xT_0 xT_1 xT_2 xT_3 xT_4 yT_0 yT_1 yT_2 yT_3 yT_4 Re6_T HKe6 HPne6 Re6_R
  exact ⟨_, rfl, .mk .nil, HPw7.out, HKw7.out⟩
end Go.Proofs.YtkfillfkbhbbjaaGreatDoor
