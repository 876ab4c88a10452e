/- LevelsC, LevelsD, Stop, MkA, MkB, Things, NSpec. -/
import Derived.Test.YtkfillfkbhbbjaaGreatDoorLevelsB
import Derived.Deep.QuietTactic
import Derived.Laws.StructEq
import Derived.WideKeyRuns
set_option maxRecDepth 100000
set_option maxHeartbeats 4000000
set_option linter.unusedSimpArgs false
set_option linter.unusedVariables false
namespace Go.Proofs.YtkfillfkbhbbjaaGreatDoor
open Go.RowKit
theorem in_lv {s : ByteArray} {p : Nat} {st st' : PSt} {n : Node} (hsub : Hands s p st st' n 256) (hno : notF s st' ⟨#[105, 110]⟩ = some ()) : Hands s p st st' n 226 := by
 intro w h;have hlt := h_lt h.row;have H := zh h; have HS := zh hsub; have HN := zh hno;clear h hsub hno
 go_enter Tryz.func226, Tryz.ntmps226
 go_wp2_with fail
 refine zlb ?_;rintro r w1 ⟨v, rfl, hn', hp1, hk1⟩;have hn : NodeR w1 (fun g => w.heap.size < g) n v := hn'.keep (Keeps.refl [] w1) jg (fun x hx => by have h2 := hx; simp at h2; omega);clear hn';have hq1 := hk1.at (h_new w (nodC 0 ⟨#[]⟩ 0 (.slice none 0 0) 0 0)) qi;have hkw : Keeps [p] w w1 := (Keeps.alloc [p] w _).trans hk1 (fun _ h => .inl h);have hsz : w.heap.size < w1.heap.size := by have := hk1.size; simp at this; omega
 have h14 := hp1.p;obtain ⟨tx, nm, a, l, cap, re, im, rfl, -, -⟩ := hn.shape;generalize hkd : n.kind = kd at *
 have hka := Keeps.alloc [] w1 (nodC kd tx nm (.slice a l cap) re im);have HN1 := zh (hn.keep0 hka); have HP1 := zh (hp1.keep hka); have HK1 := zh (hkw.trans hka jg);have HQ1 := zh (hka.at hq1 jg); have HB1 := zh (h_new w1 (nodC kd tx nm (.slice a l cap) re im));clear hn hp1 hkw hk1 hq1 hka
 go_wp2_with fail
 refine wp_loop_rounds 1 ?_;rw [rounds_succ]
 go_wp2_with fail
 generalize w1.alloc (nodC kd tx nm (.slice a l cap) re im) = w2 at *
 refine (is_not HP1.out HN.out).mono ?_;exact zzc
theorem compare_false_lv {s : ByteArray} {p : Nat} {st st' : PSt} {n : Node} (hsub : Hands s p st st' n 270) (hno : noneF s st' ⟨#[60, 32, 60, 61, 32, 61, 61, 32, 33, 61, 32, 62, 61, 32, 62]⟩ = some ()) (hng : st'.ng = false) : Hands s p st st' n 266 := by
 intro w h;have hlt := h_lt h.row;have H := zh h; have HS := zh hsub; have HN := zh hno;clear h hsub hno
 go_enter Tryz.func266, Tryz.ntmps266
 go_wp2_with fail
 refine zlb ?_;rintro r w1 ⟨v, rfl, hn', hp1, hk1⟩;have hn : NodeR w1 (fun g => w.heap.size < g) n v := hn'.keep (Keeps.refl [] w1) jg (fun x hx => by have h2 := hx; simp at h2; omega);clear hn';have hq1 := hk1.at (h_new w (nodC 0 ⟨#[]⟩ 0 (.slice none 0 0) 0 0)) qi;have hkw : Keeps [p] w w1 := (Keeps.alloc [p] w _).trans hk1 (fun _ h => .inl h);have hsz : w.heap.size < w1.heap.size := by have := hk1.size; simp at this; omega
 have h14 := hp1.p;obtain ⟨tx, nm, a, l, cap, re, im, rfl, -, -⟩ := hn.shape;generalize hkd : n.kind = kd at *
 have hka := Keeps.alloc [] w1 (nodC kd tx nm (.slice a l cap) re im);have HN1 := zh (hn.keep0 hka); have HP1 := zh (hp1.keep hka); have HK1 := zh (hkw.trans hka jg);have HQ1 := zh (hka.at hq1 jg); have HB1 := zh (h_new w1 (nodC kd tx nm (.slice a l cap) re im));clear hn hp1 hkw hk1 hq1 hka;have hlp : p < w1.heap.size := by omega
 generalize hw2 : w1.alloc (nodC kd tx nm (.slice a l cap) re im) = w2 at *
 have c3 := cell_of_heap HP1.out.row 3;simp [hng] at c3
 go_wp2_with fail
 refine jlb ?_;exact zzc
theorem post_no {s : ByteArray} {p : Nat} {st st' : PSt} {n : Node} (hsub : Hands s p st st' n 292) (hl : lval n = false) : Hands s p st st' n 290 := by
 intro w h;have hlt := h_lt h.row;have H := zh h; have HS := zh hsub; have HL := zh hl;clear h hsub hl
 go_enter Tryz.func290, Tryz.ntmps290
 exact jcd
theorem post_none {s : ByteArray} {p : Nat} {st st' : PSt} {n : Node} (hsub : Hands s p st st' n 292) (hl : lval n = true) (ho : noneF s st' ⟨#[43, 43, 32, 45, 45]⟩ = some ()) : Hands s p st st' n 290 := by
 intro w h;have hlt := h_lt h.row;have H := zh h; have HS := zh hsub; have HL := zh hl;have HO := zh ho;clear h hsub hl ho
 go_enter Tryz.func290, Tryz.ntmps290
 exact qbd
theorem expr_no {s : ByteArray} {p : Nat} {st st' : PSt} {n : Node} (hsub : Hands s p st st' n 130) (hl : lval n = false) : Hands s p st st' n 109 := by
 intro w h;have hlt := h_lt h.row;have H := zh h; have HS := zh hsub; have HL := zh hl;clear h hsub hl
 go_enter Tryz.func109, Tryz.ntmps109
 exact jcd
theorem expr_none {s : ByteArray} {p : Nat} {st st' : PSt} {n : Node} (hsub : Hands s p st st' n 130) (hl : lval n = true) (ho : noneF s st' ⟨#[61, 32, 43, 61, 32, 45, 61, 32, 42, 61, 32, 47, 61, 32, 37, 61, 32, 94, 61]⟩ = some ()) : Hands s p st st' n 109 := by
 intro w h;have hlt := h_lt h.row;have H := zh h; have HS := zh hsub; have HL := zh hl;have HO := zh ho;clear h hsub hl ho
 go_enter Tryz.func109, Tryz.ntmps109
 exact qbd
theorem calls_at {P : Program} {f : FuncId} {args : Array Value} {Q : Ending → World → Prop} {W : World} (F : World → Prop) (hF : F W) (h : ∀ W', F W' → Calls P f args W' Q) : Calls P f args W Q := h W hF
theorem ret_at {P : Program} {fn : Func} {R : Ending → World → Prop} {a : Act} {W : World} {v : Value} (F : World → Prop) (hF : F W) (hr : ∀ W', F W' → (results fn a.tmps).run P W' = .ok v W') (hd : a.defers = [])
 (hR : ∀ W', F W' → R (.returned v) W') : bodyPost P fn R .ret a W := ⟨hd, v, hr W hF, hR W hF⟩
theorem wp_at {P : Program} {c : Code} {Q : Exit → Act → World → Prop} {a : Act} {W : World} (F : World → Prop) (hF : F W) (h : ∀ W', F W' → c.wp P Q a W') : c.wp P Q a W := h W hF
theorem list_at {P : Program} {ops l : List Oper} {Q : Exit → Act → World → Prop} {a : Act} {W : World} (F : World → Prop) (hF : F W) (h : ∀ W', F W' → wpList P ops.toArray Q l a W') : wpList P ops.toArray Q l a W := h W hF
theorem inv_at {G : World → Prop} {W : World} (F : World → Prop) (hF : F W) (h : ∀ W', F W' → G W') : G W := h W hF
theorem end_at {P : Program} {fn : Func} {R : Ending → World → Prop} {a : Act} {W : World} {v : Value} (F : World → Prop) (hF : F W) (hr : ∀ W', F W' → (results fn a.tmps).run P W' = .ok v W') (hd : a.defers = [])
 (hR : ∀ W', F W' → R (.returned v) W') : bodyPost P fn R .normal a W := ⟨hd, v, hr W hF, hR W hF⟩
theorem keep_alloc {fp : List Nat} {w W : World} (h : Keeps fp w W) (o : Obj) : Keeps fp w (W.alloc o) := h.trans (fp' := []) (Keeps.alloc [] W o) jg
theorem keep_set {fp : List Nat} {w W : World} (h : Keeps fp w W) {b i : Nat} {u : Value} (hb : b ∈ fp ∨ w.heap.size ≤ b) : Keeps fp w (W.setCell ⟨b, i, none⟩ u) :=
 h.trans (fp' := [b]) (Keeps.setCell _ _ _ _ jg) (by simpa using hb)
theorem keep_drew {fp : List Nat} {w W : World} (h : Keeps fp w W) : Keeps fp w W.drew := h.trans (fp' := []) (Keeps.drew [] W) jg
/-! ### what a block holds, as an equation -/
def Obj.put : Obj → Nat → Value → Obj
 | .cells c T f, i, u => .cells (c.setIfInBounds i u) T f
 | o, _, _ => o
theorem heap_set_if (w : World) (b i k : Nat) (u : Value) : (w.setCell ⟨b, i, none⟩ u).heap[k]? = if k = b then (w.heap[k]?).map (fun o => Obj.put o i u) else w.heap[k]? := by
 by_cases h : k = b
 ·subst h;rw [if_pos rfl]
  by_cases hk : k < w.heap.size
  ·cases hx : w.heap[k]? with
   | none => simp at hx; omega
   | some o =>
    cases o with
    | cells c T f => simpa [Obj.put] using h_set_eq (i := i) (u := u) hx
    | _ => simp [World.setCell, Array.getElem?_modify, hx, Obj.put]
  rw [Array.getElem?_eq_none (by simp [World.setCell]; omega), Array.getElem?_eq_none qg]; rfl
 rw [if_neg h, Below.heap_setCell _ _ _ _ h]
theorem heap_alloc_if (w : World) (o : Obj) (k : Nat) : (w.alloc o).heap[k]? = if k = w.heap.size then some o else w.heap[k]? := by
 by_cases h : k = w.heap.size
 ·subst h; rw [if_pos rfl]; exact h_new w o
 rw [if_neg h]
 by_cases hk : k < w.heap.size
 ·exact (MapKept.heap_alloc w o).2 k hk
 rw [Array.getElem?_eq_none qi, Array.getElem?_eq_none qg]
theorem heap_drew (w : World) (k : Nat) : w.drew.heap[k]? = w.heap[k]? := rfl
/-! ### a row's cells, all at once; short names -/
theorem cf2 {w : World} {b : Nat} {T : TypeId} {c0 c1 : Value} (h : w.heap[b]? = some (.cells #[c0, c1] T (0, 0))) : b < w.heap.size ∧ w.cell? ⟨b, 0, none⟩ = some c0 ∧ w.cell? ⟨b, 1, none⟩ = some c1 ∧ w.frozen? ⟨b, 0, none⟩ = false ∧ w.frozen? ⟨b, 1, none⟩ = false :=
 ⟨h_lt h, cell_of_heap h 0, cell_of_heap h 1, frozen_of_heap h 0, frozen_of_heap h 1⟩
theorem cf3 {w : World} {b : Nat} {T : TypeId} {c0 c1 c2 : Value} (h : w.heap[b]? = some (.cells #[c0, c1, c2] T (0, 0))) : b < w.heap.size ∧ w.cell? ⟨b, 0, none⟩ = some c0 ∧ w.cell? ⟨b, 1, none⟩ = some c1 ∧ w.cell? ⟨b, 2, none⟩ = some c2 ∧ w.frozen? ⟨b, 0, none⟩ = false ∧ w.frozen? ⟨b, 1, none⟩ = false ∧ w.frozen? ⟨b, 2, none⟩ = false :=
 ⟨h_lt h, cell_of_heap h 0, cell_of_heap h 1, cell_of_heap h 2, frozen_of_heap h 0, frozen_of_heap h 1, frozen_of_heap h 2⟩
theorem cf5 {w : World} {b : Nat} {T : TypeId} {c0 c1 c2 c3 c4 : Value} (h : w.heap[b]? = some (.cells #[c0, c1, c2, c3, c4] T (0, 0))) : b < w.heap.size ∧ w.cell? ⟨b, 0, none⟩ = some c0 ∧ w.cell? ⟨b, 1, none⟩ = some c1 ∧ w.cell? ⟨b, 2, none⟩ = some c2 ∧ w.cell? ⟨b, 3, none⟩ = some c3 ∧ w.cell? ⟨b, 4, none⟩ = some c4 ∧ w.frozen? ⟨b, 0, none⟩ = false ∧ w.frozen? ⟨b, 1, none⟩ = false ∧ w.frozen? ⟨b, 2, none⟩ = false ∧ w.frozen? ⟨b, 3, none⟩ = false ∧ w.frozen? ⟨b, 4, none⟩ = false :=
 ⟨h_lt h, cell_of_heap h 0, cell_of_heap h 1, cell_of_heap h 2, cell_of_heap h 3, cell_of_heap h 4, frozen_of_heap h 0, frozen_of_heap h 1, frozen_of_heap h 2, frozen_of_heap h 3, frozen_of_heap h 4⟩
theorem cf6 {w : World} {b : Nat} {T : TypeId} {c0 c1 c2 c3 c4 c5 : Value} (h : w.heap[b]? = some (.cells #[c0, c1, c2, c3, c4, c5] T (0, 0))) : b < w.heap.size ∧ w.cell? ⟨b, 0, none⟩ = some c0 ∧ w.cell? ⟨b, 1, none⟩ = some c1 ∧ w.cell? ⟨b, 2, none⟩ = some c2 ∧ w.cell? ⟨b, 3, none⟩ = some c3 ∧ w.cell? ⟨b, 4, none⟩ = some c4 ∧ w.cell? ⟨b, 5, none⟩ = some c5 ∧ w.frozen? ⟨b, 0, none⟩ = false ∧ w.frozen? ⟨b, 1, none⟩ = false ∧ w.frozen? ⟨b, 2, none⟩ = false ∧ w.frozen? ⟨b, 3, none⟩ = false ∧ w.frozen? ⟨b, 4, none⟩ = false ∧ w.frozen? ⟨b, 5, none⟩ = false :=
 ⟨h_lt h, cell_of_heap h 0, cell_of_heap h 1, cell_of_heap h 2, cell_of_heap h 3, cell_of_heap h 4, cell_of_heap h 5, frozen_of_heap h 0, frozen_of_heap h 1, frozen_of_heap h 2, frozen_of_heap h 3, frozen_of_heap h 4, frozen_of_heap h 5⟩
theorem cf8 {w : World} {b : Nat} {T : TypeId} {c0 c1 c2 c3 c4 c5 c6 c7 : Value} (h : w.heap[b]? = some (.cells #[c0, c1, c2, c3, c4, c5, c6, c7] T (0, 0))) : b < w.heap.size ∧ w.cell? ⟨b, 0, none⟩ = some c0 ∧ w.cell? ⟨b, 1, none⟩ = some c1 ∧ w.cell? ⟨b, 2, none⟩ = some c2 ∧ w.cell? ⟨b, 3, none⟩ = some c3 ∧ w.cell? ⟨b, 4, none⟩ = some c4 ∧ w.cell? ⟨b, 5, none⟩ = some c5 ∧ w.cell? ⟨b, 6, none⟩ = some c6 ∧ w.cell? ⟨b, 7, none⟩ = some c7 ∧ w.frozen? ⟨b, 0, none⟩ = false ∧ w.frozen? ⟨b, 1, none⟩ = false ∧ w.frozen? ⟨b, 2, none⟩ = false ∧ w.frozen? ⟨b, 3, none⟩ = false ∧ w.frozen? ⟨b, 4, none⟩ = false ∧ w.frozen? ⟨b, 5, none⟩ = false ∧ w.frozen? ⟨b, 6, none⟩ = false ∧ w.frozen? ⟨b, 7, none⟩ = false :=
 ⟨h_lt h, cell_of_heap h 0, cell_of_heap h 1, cell_of_heap h 2, cell_of_heap h 3, cell_of_heap h 4, cell_of_heap h 5, cell_of_heap h 6, cell_of_heap h 7, frozen_of_heap h 0, frozen_of_heap h 1, frozen_of_heap h 2, frozen_of_heap h 3, frozen_of_heap h 4, frozen_of_heap h 5, frozen_of_heap h 6, frozen_of_heap h 7⟩
theorem cf9 {w : World} {b : Nat} {T : TypeId} {c0 c1 c2 c3 c4 c5 c6 c7 c8 : Value} (h : w.heap[b]? = some (.cells #[c0, c1, c2, c3, c4, c5, c6, c7, c8] T (0, 0))) : b < w.heap.size ∧ w.cell? ⟨b, 0, none⟩ = some c0 ∧ w.cell? ⟨b, 1, none⟩ = some c1 ∧ w.cell? ⟨b, 2, none⟩ = some c2 ∧ w.cell? ⟨b, 3, none⟩ = some c3 ∧ w.cell? ⟨b, 4, none⟩ = some c4 ∧ w.cell? ⟨b, 5, none⟩ = some c5 ∧ w.cell? ⟨b, 6, none⟩ = some c6 ∧ w.cell? ⟨b, 7, none⟩ = some c7 ∧ w.cell? ⟨b, 8, none⟩ = some c8 ∧ w.frozen? ⟨b, 0, none⟩ = false ∧ w.frozen? ⟨b, 1, none⟩ = false ∧ w.frozen? ⟨b, 2, none⟩ = false ∧ w.frozen? ⟨b, 3, none⟩ = false ∧ w.frozen? ⟨b, 4, none⟩ = false ∧ w.frozen? ⟨b, 5, none⟩ = false ∧ w.frozen? ⟨b, 6, none⟩ = false ∧ w.frozen? ⟨b, 7, none⟩ = false ∧ w.frozen? ⟨b, 8, none⟩ = false :=
 ⟨h_lt h, cell_of_heap h 0, cell_of_heap h 1, cell_of_heap h 2, cell_of_heap h 3, cell_of_heap h 4, cell_of_heap h 5, cell_of_heap h 6, cell_of_heap h 7, cell_of_heap h 8, frozen_of_heap h 0, frozen_of_heap h 1, frozen_of_heap h 2, frozen_of_heap h 3, frozen_of_heap h 4, frozen_of_heap h 5, frozen_of_heap h 6, frozen_of_heap h 7, frozen_of_heap h 8⟩
theorem cf11 {w : World} {b : Nat} {T : TypeId} {c0 c1 c2 c3 c4 c5 c6 c7 c8 c9 c10 : Value} (h : w.heap[b]? = some (.cells #[c0, c1, c2, c3, c4, c5, c6, c7, c8, c9, c10] T (0, 0))) : b < w.heap.size ∧ w.cell? ⟨b, 0, none⟩ = some c0 ∧ w.cell? ⟨b, 1, none⟩ = some c1 ∧ w.cell? ⟨b, 2, none⟩ = some c2 ∧ w.cell? ⟨b, 3, none⟩ = some c3 ∧ w.cell? ⟨b, 4, none⟩ = some c4 ∧ w.cell? ⟨b, 5, none⟩ = some c5 ∧ w.cell? ⟨b, 6, none⟩ = some c6 ∧ w.cell? ⟨b, 7, none⟩ = some c7 ∧ w.cell? ⟨b, 8, none⟩ = some c8 ∧ w.cell? ⟨b, 9, none⟩ = some c9 ∧ w.cell? ⟨b, 10, none⟩ = some c10 ∧ w.frozen? ⟨b, 0, none⟩ = false ∧ w.frozen? ⟨b, 1, none⟩ = false ∧ w.frozen? ⟨b, 2, none⟩ = false ∧ w.frozen? ⟨b, 3, none⟩ = false ∧ w.frozen? ⟨b, 4, none⟩ = false ∧ w.frozen? ⟨b, 5, none⟩ = false ∧ w.frozen? ⟨b, 6, none⟩ = false ∧ w.frozen? ⟨b, 7, none⟩ = false ∧ w.frozen? ⟨b, 8, none⟩ = false ∧ w.frozen? ⟨b, 9, none⟩ = false ∧ w.frozen? ⟨b, 10, none⟩ = false :=
 ⟨h_lt h, cell_of_heap h 0, cell_of_heap h 1, cell_of_heap h 2, cell_of_heap h 3, cell_of_heap h 4, cell_of_heap h 5, cell_of_heap h 6, cell_of_heap h 7, cell_of_heap h 8, cell_of_heap h 9, cell_of_heap h 10, frozen_of_heap h 0, frozen_of_heap h 1, frozen_of_heap h 2, frozen_of_heap h 3, frozen_of_heap h 4, frozen_of_heap h 5, frozen_of_heap h 6, frozen_of_heap h 7, frozen_of_heap h 8, frozen_of_heap h 9, frozen_of_heap h 10⟩
theorem k0 (fp : List Nat) (w : World) : Keeps fp w w := Keeps.refl _ _
theorem kA {fp : List Nat} {w W : World} (h : Keeps fp w W) (o : Obj) : Keeps fp w (W.alloc o) := keep_alloc h o
theorem kD {fp : List Nat} {w W : World} (h : Keeps fp w W) : Keeps fp w W.drew := keep_drew h
theorem kS {fp : List Nat} {w W : World} (h : Keeps fp w W) {b i : Nat} {u : Value} (hb : b ∈ fp ∨ w.heap.size ≤ b) : Keeps fp w (W.setCell ⟨b, i, none⟩ u) := keep_set h hb
theorem kM {fp : List Nat} {w W : World} (h : Keeps fp w W) {b : Nat} {o : Obj} (hb : b ∈ fp ∨ w.heap.size ≤ b) : Keeps fp w (mset W b o) :=
 h.trans (fp' := [b]) (Keeps.mset _ _ _ _ jg) (by simpa using hb)
theorem hS (w : World) (b i k : Nat) (u : Value) : (w.setCell ⟨b, i, none⟩ u).heap[k]? = if k = b then (w.heap[k]?).map (fun o => Obj.put o i u) else w.heap[k]? := heap_set_if w b i k u
theorem hA (w : World) (o : Obj) (k : Nat) : (w.alloc o).heap[k]? = if k = w.heap.size then some o else w.heap[k]? := heap_alloc_if w o k
theorem hD (w : World) (k : Nat) : w.drew.heap[k]? = w.heap[k]? := rfl
theorem hM (w : World) (b k : Nat) (o : Obj) : (mset w b o).heap[k]? = if k = b then (w.heap[k]?).map (fun _ => o) else w.heap[k]? := by
 by_cases h : k = b
 ·subst h;rw [if_pos rfl]
  by_cases hk : k < w.heap.size
  ·rw [heap_mset_eq hk]; simp [hk]
  rw [Array.getElem?_eq_none (by simp [mset]; omega), Array.getElem?_eq_none qg]; rfl
 rw [if_neg h, heap_mset_ne h]
/-! ### nodes in a stretch of blocks -/
def Seg (a b : Nat) : Nat → Prop := fun g => a ≤ g ∧ g < b
mutual
theorem NodeR.segS {w : World} {S : Nat → Prop} {n : Node} {v : Value} (h : NodeR w S n v) : NodeR w (fun g => S g ∧ g < w.heap.size) n v := by
 cases h with
 | mk h => exact .mk (KidsR.segS h)
theorem KidsR.segS {w : World} {S : Nat → Prop} {ns : List Node} {v : Value} (h : KidsR w S ns v) : KidsR w (fun g => S g ∧ g < w.heap.size) ns v := by
 cases h with
 | nil => exact .nil
 | some hS hg h => exact .some ⟨hS, hg⟩ hg (RowR.segS h)
theorem RowR.segS {w : World} {S : Nat → Prop} {g o : Nat} {ns : List Node} (h : RowR w S g o ns) : RowR w (fun g => S g ∧ g < w.heap.size) g o ns := by
 cases h with
 | nil => exact .nil
 | cons hn h0 h1 h2 h3 h4 hr => exact .cons (NodeR.segS hn) h0 h1 h2 h3 h4 (RowR.segS hr)
end
theorem NodeR.seg {w : World} {a : Nat} {n : Node} {v : Value} (h : NodeR w (fun g => a ≤ g) n v) : NodeR w (Seg a w.heap.size) n v := h.segS
theorem KidsR.seg {w : World} {a : Nat} {n : List Node} {v : Value} (h : KidsR w (fun g => a ≤ g) n v) : KidsR w (Seg a w.heap.size) n v := h.segS
theorem NodeR.kp {w w' : World} {S : Nat → Prop} {fp : List Nat} {n : Node} {v : Value} (h : NodeR w S n v) (hk : Keeps fp w w') (hf : ∀ x ∈ fp, ¬ S x) : NodeR w' S n v := h.keep hk hf fun _ h => h
theorem KidsR.kp {w w' : World} {S : Nat → Prop} {fp : List Nat} {n : List Node} {v : Value} (h : KidsR w S n v) (hk : Keeps fp w w') (hf : ∀ x ∈ fp, ¬ S x) : KidsR w' S n v := h.keep hk hf fun _ h => h
theorem NodeR.to {w : World} {S T : Nat → Prop} {n : Node} {v : Value} (h : NodeR w S n v) (hT : ∀ x, S x → T x) : NodeR w T n v := h.keep (Keeps.refl [] w) jg hT
theorem KidsR.to {w : World} {S T : Nat → Prop} {n : List Node} {v : Value} (h : KidsR w S n v) (hT : ∀ x, S x → T x) : KidsR w T n v := h.keep (Keeps.refl [] w) jg hT
theorem row1 {w : World} {S T : Nat → Prop} {n : Node} {c0 c1 c2 c3 c4 : Value} {g : Nat} {f : Nat × Nat} (h : NodeR w S n (.agg #[c0, c1, c2, c3, c4])) (hT : ∀ x, S x → T x) (hr : w.heap[g]? = some (.cells #[c0, c1, c2, c3, c4] 50 f)) : RowR w T g 0 [n] :=
 .cons (h.to hT) zm zm zm zm zm .nil
theorem row2 {w : World} {S S' T : Nat → Prop} {n m : Node} {c0 c1 c2 c3 c4 d0 d1 d2 d3 d4 : Value} {g : Nat} {f : Nat × Nat} (h : NodeR w S n (.agg #[c0, c1, c2, c3, c4])) (hT : ∀ x, S x → T x) (h' : NodeR w S' m (.agg #[d0, d1, d2, d3, d4])) (hT' : ∀ x, S' x → T x)
  (hr : w.heap[g]? = some (.cells #[c0, c1, c2, c3, c4, d0, d1, d2, d3, d4] 50 f)) : RowR w T g 0 [n, m] :=
 .cons (h.to hT) zm zm zm zm zm
  (.cons (h'.to hT') zm zm zm zm zm .nil)
theorem PP.upd {s : ByteArray} {p : Nat} {st st' : PSt} {W W' : World} {fp : List Nat} (h : PP s p st W) (hk : Keeps fp W W') (hf : ∀ x ∈ fp, 14 < x) (hr : W'.heap[p]? = some (parC s st')) (hl : st'.pos ≤ s.size) (ho : -100 ≤ st'.opn ∧ st'.opn ≤ 40) : PP s p st' W' :=
 ⟨h.gl.keep hk hf, hr, h.p, h.size, hl, ho⟩
theorem hands_at {s : ByteArray} {p : Nat} {st st' : PSt} {n : Node} {f : FuncId} {b : World} (h : Hands s p st st' n f) (hp : PP s p st b) (W : World) (hk : Keeps [] b W) :
  Calls Tryz.prog f #[.pointer (some ⟨p, 0, none⟩)] W fun r w' => ∃ v, r = .returned v ∧ (NodeR w' (Seg b.heap.size w'.heap.size) n v ∧ PP s p st' w' ∧ Keeps [p] b w') :=
 (h W (hp.keep hk)).mono fun _ _ ⟨v, hr, hn, hp', hk'⟩ => ⟨v, hr, (hn.to fun _ h => Nat.le_trans hk.size h).seg, hp', (hk.weaken jg).trans hk' jg⟩
structure MKey where
 k : Nat
 la : Option Addr
 ln : Nat
 lc : Nat
 w0 : World
 tb : Nat → Nat → ByteArray
 tn : Nat → Nat
def tabLen : Nat → Nat
 | 0 => 7
 | 1 => 6
 | 2 => 6
 | 3 => 8
 | 5 => 9
 | 6 => 4
 | 7 => 11
 | _ => 0
structure MFix (M : MKey) : Prop where
 low : 8 ≤ M.w0.heap.size
 hk : M.w0.heap.size ≤ M.k
 tab : ∀ g j, g < 8 → j < tabLen g → M.w0.cell? ⟨g, j, none⟩ = some (.string (M.tb g j))
 num : ∀ j, j < 8 → M.w0.cell? ⟨4, j, none⟩ = some (.float .f64 (M.tn j))
 ints : ∀ j, j < M.ln → ∃ g o z, M.la = some ⟨g, o, none⟩ ∧ g < M.w0.heap.size ∧ M.w0.cell? ⟨g, o + j, none⟩ = some (.int .i64 z) ∧ -9223372036854775808 ≤ z ∧ z ≤ 9223372036854775807
 lnb : M.ln ≤ 9223372036854775807
structure MK (M : MKey) (i nodes : Nat) (fn : Bool) (loops : Int) (w : World) : Prop where
 row : w.heap[M.k]? = some (.cells #[.slice M.la M.ln M.lc, .int .i64 i, .int .i64 nodes, .bool fn, .int .i64 loops] 77 (0, 0))
 keep : Keeps [] M.w0 w
def MKB (M : MKey) (I : Nat) (fn : Bool) (w : World) : Prop := ∃ i nodes : Nat, ∃ loops : Int, i ≤ I ∧ nodes ≤ I + 100 ∧ -(I : Int) ≤ loops ∧ loops ≤ I ∧ MK M i nodes fn loops w
theorem MKB.lt {M : MKey} {I : Nat} {fn : Bool} {w : World} (h : MKB M I fn w) : M.k < w.heap.size := by
 obtain ⟨i, n, l, -, -, -, -, h⟩ := h;exact h_lt h.row
theorem MK.kp {M : MKey} (hM : MFix M) {i n : Nat} {fn : Bool} {l : Int} {w w' : World} {fp : List Nat} (h : MK M i n fn l w) (hk : Keeps fp w w') (h1 : M.k ∉ fp) (h2 : ∀ x ∈ fp, M.w0.heap.size ≤ x) : MK M i n fn l w' :=
 ⟨hk.at h.row h1, h.keep.trans hk fun x hx => .inr (h2 x hx)⟩
theorem MKB.kp {M : MKey} (hM : MFix M) {I : Nat} {fn : Bool} {w w' : World} {fp : List Nat} (h : MKB M I fn w) (hk : Keeps fp w w') (h1 : M.k ∉ fp) (h2 : ∀ x ∈ fp, M.w0.heap.size ≤ x) : MKB M I fn w' := by
 obtain ⟨i, n, l, a, b, c, d, h⟩ := h;exact ⟨i, n, l, a, b, c, d, h.kp hM hk h1 h2⟩
theorem MKB.kp0 {M : MKey} (hM : MFix M) {I : Nat} {fn : Bool} {w w' : World} (h : MKB M I fn w) (hk : Keeps [] w w') : MKB M I fn w' := h.kp hM hk jg jg
theorem MKB.to {M : MKey} {I J : Nat} {fn : Bool} {w : World} (h : MKB M I fn w) (hJ : I ≤ J) : MKB M J fn w := by
 obtain ⟨i, n, l, a, b, c, d, h⟩ := h;exact ⟨i, n, l, by omega, by omega, by omega, by omega, h⟩
theorem MK.upd {M : MKey} (hM : MFix M) {i n i' n' : Nat} {fn fn' : Bool} {l l' : Int} {w w' : World} (h : MK M i n fn l w) (hk : Keeps [M.k] w w') (hr : w'.heap[M.k]? = some (.cells #[.slice M.la M.ln M.lc, .int .i64 i', .int .i64 n', .bool fn', .int .i64 l'] 77 (0, 0))) : MK M i' n' fn' l' w' :=
 ⟨hr, h.keep.trans hk fun x hx => by simp at hx; subst hx; exact .inr hM.hk⟩
theorem MK.tab {M : MKey} (hM : MFix M) {i n : Nat} {fn : Bool} {l : Int} {w : World} (h : MK M i n fn l w) {g j : Nat} (hg : g < 8) (hj : j < tabLen g) : w.cell? ⟨g, j, none⟩ = some (.string (M.tb g j)) := by
 rw [World.cell?_of_block (w := M.w0) (a := ⟨g, j, none⟩) (h.keep.block g (Nat.lt_of_lt_of_le hg hM.low) jg)]; exact hM.tab g j hg hj
theorem MKB.tab {M : MKey} (hM : MFix M) {I : Nat} {fn : Bool} {w : World} (h : MKB M I fn w) {g j : Nat} (hg : g < 8) (hj : j < tabLen g) : w.cell? ⟨g, j, none⟩ = some (.string (M.tb g j)) := by
 obtain ⟨i, n, l, -, -, -, -, h⟩ := h;exact h.tab hM hg hj
theorem MKB.num {M : MKey} (hM : MFix M) {I : Nat} {fn : Bool} {w : World} (h : MKB M I fn w) {j : Nat} (hj : j < 8) : w.cell? ⟨4, j, none⟩ = some (.float .f64 (M.tn j)) := by
 obtain ⟨i, n, l, -, -, -, -, h⟩ := h;rw [World.cell?_of_block (w := M.w0) (a := ⟨4, j, none⟩) (h.keep.block 4 (Nat.lt_of_lt_of_le qg hM.low) jg)]; exact hM.num j hj
theorem MK.int {M : MKey} (hM : MFix M) {i n : Nat} {fn : Bool} {l : Int} {w : World} (h : MK M i n fn l w) {j : Nat} (hj : j < M.ln) : ∃ g o z, M.la = some ⟨g, o, none⟩ ∧ g < w.heap.size ∧ w.cell? ⟨g, o + j, none⟩ = some (.int .i64 z) ∧ -9223372036854775808 ≤ z ∧ z ≤ 9223372036854775807 := by
 obtain ⟨g, o, z, h1, h2, h3, h4⟩ := hM.ints j hj;exact ⟨g, o, z, h1, Nat.lt_of_lt_of_le h2 h.keep.size, by rw [World.cell?_of_block (w := M.w0) (a := ⟨g, o + j, none⟩) (h.keep.block g h2 jg)]; exact h3, h4⟩
theorem cell_of_block_keep {w w' : World} {k g j : Nat} {v : Value} (h : Keeps [k] w w') (hg : g < w.heap.size) (hn : g ≠ k) (hc : w.cell? ⟨g, j, none⟩ = some v) : w'.cell? ⟨g, j, none⟩ = some v := by
 rw [World.cell?_of_block (w := w) (a := ⟨g, j, none⟩) (h.block g hg (by simpa using hn))]; exact hc
def pickF (n : Int) (m : Nat) : Nat := (n % (m : Int)).toNat
theorem pickF_lt {n : Int} {m : Nat} (hm : 0 < m) : pickF n m < m := by
 unfold pickF;have h1 := Int.emod_lt_of_pos n (b := (m : Int)) qg;have h2 := Int.emod_nonneg n (b := (m : Int)) qg
 omega
theorem wrap64_rng (n : Int) : -9223372036854775808 ≤ wrap64 n ∧ wrap64 n ≤ 9223372036854775807 := by unfold wrap64; omega
theorem pickM {n : Int} (hr : -9223372036854775808 ≤ n ∧ n ≤ 9223372036854775807) (m : Nat) (hm : 0 < m) (hm2 : m ≤ 1000000) (w : World) : Calls Tryz.prog 15 #[.int .i64 n, .int .i64 m] w fun r w' => r = .returned (.int .i64 (pickF n m)) ∧ w' = w := by
 obtain ⟨h1, h2⟩ := hr;have d0 : (m : Int) ≠ 0 := by omega
 have e1 : n.tmod m < m := by have := Int.tmod_lt_of_pos n (b := (m : Int)) qg; exact this
 have e2 : -(m : Int) < n.tmod m := by have := Int.lt_tmod_of_pos n (b := (m : Int)) qg; exact this
 have e3 : (pickF n m : Int) = n % m := by
  unfold pickF;have := Int.emod_nonneg n (b := (m : Int)) qg
  omega
 have e4 : n % m = if n.tmod m < 0 then n.tmod m + m else n.tmod m := by
  have a1 := Int.emod_nonneg n (b := (m : Int)) qg;have a2 := Int.emod_lt_of_pos n (b := (m : Int)) qg
  have a3 : (m : Int) ∣ n.tmod m - n % m := by
   have b1 := Int.mul_tdiv_add_tmod n m;have b2 := Int.mul_ediv_add_emod n m;refine ⟨n / m - n.tdiv m, ?_⟩;rw [Int.mul_sub]; omega
  obtain ⟨q, hq⟩ := a3
  have b1 : q = 0 ∨ q = -1 := by
   have c1 : (m : Int) * q < m := by omega
   have c2 : (m : Int) * (-2) < m * q := by omega
   have d1 : q < 1 := Int.lt_of_mul_lt_mul_left (a := (m : Int)) qg qg;have d2 : -2 < q := Int.lt_of_mul_lt_mul_left (a := (m : Int)) qg qg
   omega
  rcases b1 with rfl | rfl <;> split <;> omega
 rw [← e3] at e4;generalize pickF n m = k at *
 clear e3;generalize hz : n.tmod m = z at e1 e2 e4
 go_enter Tryz.func15, Tryz.ntmps15
 by_cases hneg : z < 0
 ·rw [if_pos hneg] at e4;have HE := zh e4;clear e4
  go_wp2
  exact znb
 rw [if_neg hneg] at e4;have HE := zh e4;clear e4
 go_wp2
 exact znb
theorem one_any {M : MKey} (hM : MFix M) {I : Nat} {fn : Bool} {w : World} (h : MKB M I fn w) (hI : I < 1000000000000) (m : Nat) (hm : 0 < m) (hm2 : m ≤ 1000000) : Calls Tryz.prog 29 #[.pointer (some ⟨M.k, 0, none⟩), .int .i64 m] w fun r w' => ∃ p : Nat, p < m ∧ r = .returned (.int .i64 p) ∧ MKB M (I + 1) fn w' ∧ Keeps [M.k] w w' := by
 obtain ⟨i, nn, l, hi, hn, hl1, hl2, hk⟩ := h;have HM := zh hM;have hlb := hM.lnb;obtain ⟨l_k, x0, x1, x2, x3, x4, y0, y1, y2, y3, y4⟩ := cf5 hk.row;have HK := zh hk;clear hk hM
 have fin : ∀ W, Keeps [M.k] w W → W.heap[M.k]? = some (.cells #[.slice M.la M.ln M.lc, .int .i64 ((i : Int) + 1), .int .i64 nn, .bool fn, .int .i64 l] 77 (0, 0)) → MKB M (I + 1) fn W := fun W h1 h2 =>
  ⟨i + 1, nn, l, by omega, by omega, by omega, by omega, HK.out.upd HM.out h1 h2⟩
 have HF := zh fin;clear fin
 by_cases h0 : M.ln = 0
 ·have d0 : ((M.ln : Int) == 0) = true := by simp [h0]
  go_enter Tryz.func29, Tryz.ntmps29
  go_wp2_with fail
  refine ret_at (v := .int .i64 ((0 : Nat) : Int)) (fun W => Keeps [M.k] w W ∧ W.heap[M.k]? = some (.cells #[.slice M.la M.ln M.lc, .int .i64 ((i : Int) + 1), .int .i64 nn, .bool fn, .int .i64 l] 77 (0, 0))) ⟨zg, (za HK.out.row)⟩ (fun W hW => ?_) rfl (fun W hW => ?_)
  ·exact jnb
  exact ⟨0, hm, rfl, HF.out _ hW.1 hW.2, hW.1⟩
 obtain ⟨j, hj⟩ : ∃ j : Nat, j = (i + 1) % M.ln := ⟨_, rfl⟩;have hjl : j < M.ln := by rw [hj]; exact Nat.mod_lt _ qg
 obtain ⟨g, o, z, hla, hg, hc, hz1, hz2⟩ := HK.out.int HM.out hjl;have HP : Hid (∀ (n : Int) (W : World), Calls Tryz.prog 15 #[.int .i64 (IntKind.i64.wrap n), .int .i64 m] W fun r w' => r = .returned (.int .i64 (pickF (IntKind.i64.wrap n) m)) ∧ w' = W) := zh fun n W => pickM (by rw [IntWalk.i64_left]; exact wrap64_rng n) m hm hm2 W
 have d0 : ((M.ln : Int) == 0) = false := by simp; omega
 have hne : g ≠ M.k := by
  have := HM.out.hk;obtain ⟨g', o', z', e1, e2, -⟩ := HM.out.ints j hjl;rw [hla] at e1;injection e1 with e1
  injection e1 with e1
  omega
 have hjz : ((i : Int) + 1).tmod (M.ln : Int) = (j : Int) := by rw [hj, show ((i : Int) + 1) = ((i + 1 : Nat) : Int) by omega, ← Int.ofNat_tmod]
 have hji : (j : Int) < (M.ln : Int) := by omega
 have HJ := zh hj;clear hj
 go_enter Tryz.func29, Tryz.ntmps29
 go_upto_region 4 with fail
 refine wp_at (fun W => Keeps [M.k] w W ∧ W.heap[M.k]? = some (.cells #[.slice M.la M.ln M.lc, .int .i64 ((i : Int) + 1), .int .i64 nn, .bool fn, .int .i64 l] 77 (0, 0))) ⟨zg, (za HK.out.row)⟩ ?_;rintro w1 ⟨k1, c1⟩;have hc1 := cell_of_block_keep k1 hg hne hc;have H1 := zh (And.intro k1 c1);rw [hla] at c1;clear x0 x1 x2 x3 x4 y0 y1 y2 y3 y4 k1 hc l_k;obtain ⟨l_k, x0, x1, x2, x3, x4, y0, y1, y2, y3, y4⟩ := cf5 c1;clear c1
 go_quiet ((go_at_call 15; refine Calls.quiet_of_same (HP.out _ _)))
 go_wp2_with fail
 have hpl : ∀ z, pickF z m < m := fun z => pickF_lt hm
 generalize hpv : pickF _ m = p;have hp : p < m := by rw [← hpv]; exact hpl _
 clear hpv;refine ret_at (v := .int .i64 (p : Int)) (fun W => Keeps [] w1 W) (Keeps.drewN [] w1 nq) (fun W hW => ?_) rfl (fun W hW => ?_)
 ·exact jnb
 obtain ⟨k1, c1⟩ := H1.out;have k2 := k1.trans hW jg;exact ⟨p, hp, rfl, HF.out _ k2 (hW.at c1 jg), k2⟩
end Go.Proofs.YtkfillfkbhbbjaaGreatDoor
namespace Go.Proofs.YtkfillfkbhbbjaaGreatDoor
open Go.RowKit Go.MapKept
structure Ent (κ : Type) where
 key : κ
 val : Value
 born : Nat
def ents {κ : Type} (emb : κ → Value) (l : List (Ent κ)) : Array MapEntry := (l.map fun e => ⟨emb e.key, e.val, e.born⟩).toArray
def klook {κ : Type} [DecidableEq κ] (k : κ) : List (Ent κ) → Nat → Option (Nat × Value)
 | [], _ => none
 | e :: es, i => if k = e.key then some (i, e.val) else klook k es (i + 1)
def kval {κ : Type} [DecidableEq κ] (k : κ) (l : List (Ent κ)) : Option Value := (klook k l 0).map (·.2)
def kput {κ : Type} [DecidableEq κ] (k : κ) (v : Value) (clock : Nat) (l : List (Ent κ)) : List (Ent κ) × Nat :=
 match klook k l 0 with
 | some (i, _) => (l.modify i fun e => { e with val := v }, clock)
 | none => (l ++ [⟨k, v, clock⟩], clock + 1)
theorem klook_some {κ : Type} [DecidableEq κ] {k : κ} : ∀ {l : List (Ent κ)} {i j : Nat} {v : Value}, klook k l i = some (j, v) → i ≤ j ∧ ∃ e, l[j - i]? = some e ∧ e.key = k ∧ e.val = v
 | [], _, _, _, h => by cases h
 | e :: es, i, j, v, h => by
   unfold klook at h
   split at h
   ·rename_i hk;simp only [Option.some.injEq, Prod.mk.injEq] at h;obtain ⟨rfl, rfl⟩ := h;exact ⟨Nat.le_refl _, e, by simp, hk.symm, rfl⟩
   obtain ⟨h1, e', h2, h3⟩ := klook_some h;refine ⟨by omega, e', ?_, h3⟩;rw [show j - i = (j - (i + 1)) + 1 from by omega]
   simpa using h2
structure KeyK {κ : Type} [DecidableEq κ] (P : Program) (K : TypeId) (emb : κ → Value) : Prop where
 find : ∀ (w : World) (k : κ) (l : List (Ent κ)), (Instr.findKey K (emb k) (ents emb l).toList).run P w = .ok (klook k l 0) w
 check : ∀ (w : World) (em : Bool) (k : κ), (Instr.checkKey em 10000 K (emb k)).run P w = .ok () w
 stays : ∀ (w : World) (k : κ), (Instr.keyThatStays (emb k) (emb k)).run P w = .ok (emb k) w
section
variable {P : Program} {κ : Type} [DecidableEq κ] {T K E : TypeId} {emb : κ → Value} {b clock : Nat} {l : List (Ent κ)} {w : World}
theorem run_klook_ok (hK : KeyK P K emb) (hT : P.underlying T = some (.map K E)) {z : Value} (hz : (zeroValue E).run P w = .ok z w) (hb : w.heap[b]? = some (.map (ents emb l) clock)) (k : κ) : (Instr.lookup T (.map (some b)) (emb k) true).run P w = .ok (.tuple #[(kval k l).getD z, .bool (kval k l).isSome]) w := by
 exact jrd
theorem run_klook (hK : KeyK P K emb) (hT : P.underlying T = some (.map K E)) {z : Value} (hz : (zeroValue E).run P w = .ok z w) (hb : w.heap[b]? = some (.map (ents emb l) clock)) (k : κ) : (Instr.lookup T (.map (some b)) (emb k) false).run P w = .ok ((kval k l).getD z) w := by
 exact jrd
theorem run_kput (hK : KeyK P K emb) (hT : P.underlying T = some (.map K E)) (hb : w.heap[b]? = some (.map (ents emb l) clock)) (k : κ) (v : Value) : (Instr.mapUpdate T (.map (some b)) (emb k) v).run P w = .ok () (mset w b (.map (ents emb (kput k v clock l).1) (kput k v clock l).2)) := by
 have hf := hK.find w k l;unfold kput
 cases h : klook k l 0 with
 | none =>
  rw [h] at hf;simp only [Instr.mapUpdate, Sem.run_bind, run_underlying hT, MapKept.run_getObj_map hb, hK.check, hf, Result.andThen, run_setObj_map _ hb];simp [ents, mset]
 | some x =>
  obtain ⟨i, u⟩ := x;rw [h] at hf;obtain ⟨_, e, he, hse, _⟩ := klook_some h;have hi : (ents emb l)[i]? = some ⟨emb e.key, e.val, e.born⟩ := by simp [ents] at he ⊢; exact ⟨e, he, rfl, rfl, rfl⟩
  have hkk : ((((ents emb l)[i]?).map (·.key)).getD (emb k)) = emb k := by rw [hi]; simp [hse]
  simp only [Instr.mapUpdate, Sem.run_bind, run_underlying hT, MapKept.run_getObj_map hb, hK.check, hf, Result.andThen, run_setObj_map _ hb, hkk, hK.stays, mset]
  congr 4
  apply Array.ext';simp only [ents, Array.toList_modify];apply List.ext_getElem?;intro j;simp only [List.getElem?_modify, List.getElem?_map]
  by_cases hij : i = j
  ·subst hij;simp only [Nat.sub_zero] at he;simp [he, hse]
  simp [hij]
end
/-! ### keys that are strings -/
theorem bytes_eq_iff {a b : ByteArray} : (a == b) = decide (a = b) := by
 by_cases h : a = b
 ·subst h; simp [(bytes_beq a a).2 rfl]
 have : ¬ (a == b) = true := fun h2 => h ((bytes_beq a b).1 h2)
 simp [h, this]
theorem keyS {P : Program} {K : TypeId} (hK : P.underlying K = some .string) : KeyK P K (fun s : ByteArray => Value.string s) := {
 find := fun w k l => by
  refine run_findKey hK ?_
  have h : ∀ (l : List (Ent ByteArray)) (i : Nat), Instr.findNow .string (.string k) (l.map fun e => (⟨.string e.key, e.val, e.born⟩ : MapEntry)) i = some (klook k l i) := by
   intro l
   induction l with
   | nil => intro i; rfl
   | cons e es ih =>
    intro i;simp only [List.map_cons, Instr.findNow, klook, Instr.sameNow]
    by_cases h : k = e.key
    ·subst h; simp [(bytes_beq e.key e.key).2 rfl]
    rw [bytes_eq_iff]; simp [h, ih]
  simpa [ents] using h l 0
 check := fun w em k => MapKept.run_checkKey hK (by simp [IsKey]) em 9999
 stays := fun w k => MapKept.run_keyThatStays (d := .string) (by simp [IsKey])
 }
/-! ### keys that are things -/
abbrev Thing := Nat × ByteArray
def tval (t : Thing) : Value := .agg #[.int .i64 t.1, .string t.2]
theorem run_equal_thing (w : World) (d : Nat) (a b : Thing) : (Op.equalIn (d + 2) 101 (tval a) (tval b)).run Tryz.prog w = .ok (decide (a = b)) w := by
 obtain ⟨x, y⟩ := a; obtain ⟨x2, y2⟩ := b;have hs : Tryz.prog.stoodInHeld 101 = false := by kernel_rfl
 unfold tval;rw [run_equalIn_struct w (d + 1) 101 _ _ (by rw [Program.fieldsOf, Tryz.underlying101]) hs];rw [Program.fieldsOf, Tryz.underlying101];simp [Op.eqFields, go_sem];have e1 : ((x : Int) = x2) = (x = x2) := propext ⟨fun h => by omega, fun h => by rw [h]⟩
 have e2 : (y.toList = y2.toList) = (y = y2) := by
  rw [ByteArray.toList_eq, ByteArray.toList_eq];refine propext ⟨fun h => ?_, fun h => by rw [h]⟩
  cases y; cases y2; simpa using h
 simp only [e1, e2]
 by_cases h1 : x = x2 <;> by_cases h2 : y = y2 <;> simp [h1, h2]
theorem keyT : KeyK Tryz.prog 101 tval := {
 find := fun w k l => by
  rw [run_findKey_eq w (by rw [Tryz.underlying101])]
  have h : ∀ (l : List (Ent Thing)) (i : Nat), (Instr.findAsking 101 (tval k) (l.map fun e => (⟨tval e.key, e.val, e.born⟩ : MapEntry)) i).run Tryz.prog w = .ok (klook k l i) w := by
   intro l
   induction l with
   | nil => intro i; simp [Instr.findAsking, klook]
   | cons e es ih =>
    intro i;have he := run_equal_thing w 9998 k e.key;simp only [List.map_cons, Instr.findAsking, klook, Sem.run_bind, Op.equal, Op.maxDepth, he, Result.andThen]
    by_cases h : k = e.key
    ·simp [h]
    simp [h, ih]
  simpa [ents] using h l 0
 check := fun w em k => by
  obtain ⟨x, y⟩ := k;have h3 : ∀ n w, (Instr.checkKey em (n + 1) 3 (.int .i64 x)).run Tryz.prog w = .ok () w := fun n w => MapKept.run_checkKey Tryz.underlying3 (by simp [IsKey]) em n
  have h9 : ∀ n w, (Instr.checkKey em (n + 1) 9 (.string y)).run Tryz.prog w = .ok () w := fun n w => MapKept.run_checkKey Tryz.underlying9 (by simp [IsKey]) em n
  show (Instr.checkKey em (9998 + 1 + 1) 101 (.agg #[.int .i64 x, .string y])).run Tryz.prog w = .ok () w;generalize (9998 : Nat) = n at *
  rw [Instr.checkKey];simp only [Sem.run_bind, run_underlying Tryz.underlying101, Result.andThen];have hp1 : (part 3 #[Value.int IntKind.i64 x, Value.string y] 0).run Tryz.prog w = .ok (.int .i64 x) w := by simp [go_sem]
  have hp2 : (part 9 #[Value.int IntKind.i64 x, Value.string y] 1).run Tryz.prog w = .ok (.string y) w := by simp [go_sem]
  simp [hp1, hp2, h3, h9, Result.andThen]
 stays := fun w k => by
  obtain ⟨x, y⟩ := k;have : (y == y) = true := (bytes_beq y y).2 rfl;simp [Instr.keyThatStays, tval, Instr.sameBits, this]
 }
end Go.Proofs.YtkfillfkbhbbjaaGreatDoor
namespace Go.Proofs.YtkfillfkbhbbjaaGreatDoor
def Node.name : Node → ByteArray
 | .mk _ n _ _ _ _ => n
def Node.kids : Node → List Node
 | .mk _ _ _ k _ _ => k
structure Use where
 re : Nat
 im : Nat
 of : Thing
 array : Bool
 param : Thing
 kid : Bool
 bad : Bool
structure NS where
 fn : Nat
 rule : Int
 loops : Int
 uses : List Use
 same : List (Thing × Thing)
 seen : List Thing
 re : Nat
 im : Nat
 e : Int
def specials : List ByteArray := [bs [78, 82], bs [78, 70], bs [70, 83], bs [79, 70, 83], bs [79, 82, 83], bs [82, 83], bs [83, 85, 66, 83, 69, 80], bs [67, 79, 78, 86, 70, 77, 84], bs [79, 70, 77, 84], bs [82, 83, 84, 65, 82, 84], bs [82, 76, 69, 78, 71, 84, 72], bs [78, 79, 87], bs [71, 65, 80, 83]]
def memB (s : ByteArray) : List ByteArray → Bool
 | [] => false
 | x :: l => if same s x then true else memB s l
def specialF (s : ByteArray) : Bool := memB s specials
def flookA (name : ByteArray) : List FuncP → Nat → Nat
 | [], _ => 0
 | f :: l, i => if same name f.name then i + 1 else flookA name l (i + 1)
def flook (g : ProgP) (name : ByteArray) : Nat := flookA name g.funcs 0
def paramsOf (g : ProgP) (fn : Nat) : List ByteArray := match g.funcs[fn - 1]? with
 | some f => f.params
 | none => []
def teq (a b : Thing) : Bool := a.1 == b.1 && Go.Proofs.YtkfillfkbhbbjaaGreatDoor.same a.2 b.2
def alook (k : Thing) : List (Thing × Thing) → Option Thing
 | [] => none
 | x :: l => if teq k x.1 then some x.2 else alook k l
def rootF (m : List (Thing × Thing)) : Nat → Thing → Option Thing
 | 0, _ => none
 | f + 1, t => match alook t m with
   | none => some t
   | some u => rootF m f u
def rootN (st : NS) (t : Thing) : Option Thing := rootF st.same (st.same.length + 1) t
def tmem (t : Thing) : List Thing → Bool
 | [] => false
 | x :: l => if teq t x then true else tmem t l
def seePut (st : NS) (t : Thing) : NS := { st with seen := if tmem t st.seen then st.seen else st.seen ++ [t] }
def faultF (st : NS) (re im : Nat) (e : Int) : NS := if st.e = 0 then { st with re := re, im := im, e := e } else st
def ofF (g : ProgP) (st : NS) (name : ByteArray) : Thing × NS :=
 if st.fn > 0 ∧ memB name (paramsOf g st.fn) = true then ((st.fn, name), st) else ((0, name), seePut st (0, name))
def namedF (g : ProgP) (st : NS) (n : Node) : NS := if flook g n.name > 0 then faultF st n.re n.im 28 else st
def useF (st : NS) (u : Use) : Option NS := if st.uses.length < 400000 then some { st with uses := st.uses ++ [u] } else none
def noT : Thing := (0, bs [])
def headP (f : FuncP) (s : ByteArray) : List ByteArray → NS → NS
 | [], st => st
 | t :: l, st => headP f s l (if same t s then faultF st f.re f.im 29 else st)
def headPs (g : ProgP) (i : Nat) (f : FuncP) : List ByteArray → List ByteArray → NS → NS
 | _, [], st => st
 | pre, s :: l, st =>
  let st := headP f s pre st
  let st := if specialF s || decide (flook g s > 0) then faultF st f.re f.im 28 else st
  headPs g i f (pre ++ [s]) l (seePut st (i + 1, s))
def headsA (g : ProgP) : Nat → List FuncP → NS → NS
 | _, [], st => st
 | i, f :: l, st =>
  let st := if flook g f.name ≠ i + 1 then faultF st f.re f.im 29 else if specialF f.name then faultF st f.re f.im 28 else st
  headsA g (i + 1) l (headPs g i f [] f.params st)
def countsF (name : ByteArray) : Nat × Nat :=
 if memB name [bs [108, 101, 110, 103, 116, 104], bs [115, 114, 97, 110, 100]] then (0, 1)
 else if same name (bs [114, 97, 110, 100]) then (0, 0)
 else if memB name [bs [105, 110, 100, 101, 120], bs [109, 97, 116, 99, 104], bs [97, 116, 97, 110, 50], bs [101, 120, 112, 105, 114, 101]] then (2, 2)
 else if memB name [bs [115, 117, 98, 115, 116, 114], bs [115, 112, 108, 105, 116], bs [115, 117, 98], bs [103, 115, 117, 98]] then (2, 3)
 else if same name (bs [115, 112, 114, 105, 110, 116, 102]) then (1, 1073741824)
 else (1, 1)
abbrev NRec := NS → Node → Option NS
def kidsF (rec : NRec) : List Node → NS → Option NS
 | [], st => some st
 | k :: l, st => do
   let st ← rec st k
   kidsF rec l st
def callF (g : ProgP) (rec : NRec) (fn : Nat) : List ByteArray → List Node → NS → Option NS
 | _, [], st => some st
 | [], _ :: _, _ => none
 | p :: ps, k :: l, st => do
   if k.kind ≠ 4 then do
    let st ← useF st ⟨k.re, k.im, noT, false, (fn, p), true, false⟩
    let st ← rec st k
    callF g rec fn ps l st
   else do
    let o := ofF g (namedF g st k) k.name
    let a ← rootN o.2 o.1
    let b ← rootN o.2 (fn, p)
    callF g rec fn ps l (if teq a b then o.2 else { o.2 with same := o.2.same ++ [(a, b)] })
def patsF (rec : NRec) : List Node → NS → Option NS
 | [], st => some st
 | n :: l, st => do
   let st ← rec st n
   patsF rec l st
def allR (rec : NRec) : List RuleP → NS → Option NS
 | [], st => some st
 | r :: l, st => do
   let st ← patsF rec r.pats { st with rule := r.kind, loops := 0 }
   let st ← rec st r.body
   allR rec l st
def allF (rec : NRec) : Nat → List FuncP → NS → Option NS
 | _, [], st => some st
 | i, f :: l, st => do
   let st ← rec { st with fn := i + 1, loops := 0 } f.body
   allF rec (i + 1) l st
/-! ### kinds -/
abbrev Kinds := List (Thing × Nat)
def kof (t : Thing) : Kinds → Nat
 | [] => 0
 | x :: l => if teq t x.1 then x.2 else kof t l
def kindsS (st : NS) : List Thing → Kinds → Option Kinds
 | [], k => some k
 | t :: l, k => if t.1 = 0 ∧ specialF t.2 = true then do
    let r ← rootN st t
    kindsS st l ((r, 1) :: k)
   else kindsS st l k
def kindsU (st : NS) : List Use → Kinds → Option Kinds
 | [], k => some k
 | u :: l, k => if u.kid || u.bad then kindsU st l k else do
    let r ← rootN st u.of
    kindsU st l (if kof r k > 0 then k else (r, if u.array then 2 else 1) :: k)
def kindsF (st : NS) : Option Kinds := do
 let k ← kindsS st st.seen []
 kindsU st st.uses k
def arraysF (k : Kinds) : List Use → NS → Option NS
 | [], st => some st
 | u :: l, st => do
   let b ← (if u.bad then some true
    else if u.kid then do
     let r ← rootN st u.param
     some (kof r k == 2)
    else do
     let r ← rootN st u.of
     some ((kof r k == 2) != u.array))
   arraysF k l (if b then faultF st u.re u.im 30 else st)
/-! ### what is told -/
def ltB : List UInt8 → List UInt8 → Bool
 | _, [] => false
 | [], _ :: _ => true
 | a :: x, b :: y => if a < b then true else if b < a then false else ltB x y
def insB (s : ByteArray) : List ByteArray → List ByteArray
 | [] => [s]
 | x :: l => if ltB x.data.toList s.data.toList then x :: insB s l else s :: x :: l
def sortB : List ByteArray → List ByteArray
 | [] => []
 | x :: l => insB x (sortB l)
structure InfoP where
 scalars : List ByteArray
 arrays : List ByteArray
 params : List (List Bool)
def namesF (st : NS) (k : Kinds) (arr : Bool) : List Thing → Option (List ByteArray)
 | [] => some []
 | t :: l => if decide (t.1 > 0) || specialF t.2 then namesF st k arr l else do
    let r ← rootN st t
    let rest ← namesF st k arr l
    some (if (kof r k == 2) == arr then t.2 :: rest else rest)
def parsF (st : NS) (k : Kinds) (i : Nat) : List ByteArray → Option (List Bool)
 | [] => some []
 | s :: l => do
   let r ← rootN st (i + 1, s)
   let rest ← parsF st k i l
   some ((kof r k == 2) :: rest)
def parsAll (st : NS) (k : Kinds) : Nat → List FuncP → Option (List (List Bool))
 | _, [] => some []
 | i, f :: l => do
   let x ← parsF st k i f.params
   let rest ← parsAll st k (i + 1) l
   some (x :: rest)
structure Told where
 info : InfoP
 re : Nat
 im : Nat
 e : Int
def smallB (g : ProgP) : Bool := decide (g.funcs.length ≤ 400000) && decide (g.rules.length ≤ 1000000) && g.funcs.all (fun f => decide (f.params.length ≤ 400000)) && g.rules.all (fun r => decide (r.pats.length ≤ 1000000))
def ns0 : NS := ⟨0, 0, 0, [], [], [], 0, 0, 0⟩
def infoF (st : NS) (k : Kinds) (g : ProgP) : Option InfoP := do
 let sc ← namesF st k false st.seen
 let ar ← namesF st k true st.seen
 let ps ← parsAll st k 0 g.funcs
 some ⟨sortB sc, sortB ar, ps⟩
def nRest (st : NS) (g : ProgP) : Option Told := if st.e ≠ 0 then some ⟨⟨[], [], []⟩, st.re, st.im, st.e⟩ else do
 let k ← kindsF st
 let x ← infoF st k g
 some ⟨x, 0, 0, 0⟩
def nArr (st : NS) : Option NS := if st.e = 0 then do
  let k ← kindsF st
  arraysF k st.uses st
 else some st
end Go.Proofs.YtkfillfkbhbbjaaGreatDoor
