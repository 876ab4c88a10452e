/- Maps whose keys are strings, the block's entries a known list: what look-up, store, delete and len do, at the operation. No program in sight. -/
import Derived.WalkKit
import Derived.Maps.OwnOps
import Derived.Lib.Hide
import Derived.Deep.Draws
namespace Go.Proofs.YthanhccpmonemaaGreatDoor
open Go.RowKit Go.MapKept

/-- An entry of a map with string keys. -/
structure SE where
  key : ByteArray
  val : Value
  born : Nat

def SE.ent (e : SE) : MapEntry := ⟨.string e.key, e.val, e.born⟩
def sents (l : List SE) : Array MapEntry := (l.map SE.ent).toArray
def slook (s : ByteArray) : List SE → Nat → Option (Nat × Value)
  | [], _ => none
  | e :: es, i => if s == e.key then some (i, e.val) else slook s es (i + 1)
def sval (s : ByteArray) (l : List SE) : Option Value := (l.find? fun e => s == e.key).map (·.val)

theorem slook_val (s : ByteArray) : ∀ (l : List SE) (i : Nat), (slook s l i).map (·.2) = sval s l
  | [], i => rfl
  | e :: es, i => by
    unfold slook sval
    rw [List.find?_cons]
    cases h : (s == e.key)
    · simpa [sval] using slook_val s es (i + 1)
    · simp

theorem slook_none {s : ByteArray} : ∀ {l : List SE} {i : Nat}, slook s l i = none → ∀ e ∈ l, (s == e.key) = false
  | [], _, _, _, h => by cases h
  | e :: es, i, h, x, hx => by
    unfold slook at h
    cases hk : (s == e.key) with
    | true => simp [hk] at h
    | false =>
      simp only [hk] at h
      rcases List.mem_cons.1 hx with rfl | hx
      · exact hk
      · exact slook_none (by simpa using h) x hx

theorem slook_some {s : ByteArray} : ∀ {l : List SE} {i j : Nat} {v : Value}, slook s l i = some (j, v) → i ≤ j ∧ ∃ e, l[j - i]? = some e ∧ (s == e.key) = true ∧ e.val = v
  | [], _, _, _, h => by cases h
  | e :: es, i, j, v, h => by
    unfold slook at h
    cases hk : (s == e.key) with
    | true =>
      simp only [hk, if_true, Option.some.injEq, Prod.mk.injEq] at h
      obtain ⟨rfl, rfl⟩ := h
      exact ⟨Nat.le_refl _, e, by simp, hk, rfl⟩
    | false =>
      simp only [hk] at h
      obtain ⟨h1, e', h2, h3⟩ := slook_some (by simpa using h)
      refine ⟨by omega, e', ?_, h3⟩
      rw [show j - i = (j - (i + 1)) + 1 from by omega]
      simpa using h2

theorem findNow_s (s : ByteArray) : ∀ (l : List SE) (i : Nat), Instr.findNow .string (.string s) (l.map SE.ent) i = some (slook s l i)
  | [], i => rfl
  | e :: es, i => by
    simp only [List.map_cons, Instr.findNow, slook, SE.ent, Instr.sameNow]
    cases h : (s == e.key)
    · simpa [SE.ent] using findNow_s s es (i + 1)
    · simp

section
variable {P : Program} {T K E : TypeId} {w : World} {b clock : Nat} {l : List SE}

theorem run_lookup_s (hT : P.underlying T = some (.map K E)) (hK : P.underlying K = some .string)
    (hb : w.heap[b]? = some (.map (sents l) clock)) (s : ByteArray) {z : Value} (hz : (zeroValue E).run P w = .ok z w) :
    (Instr.lookup T (.map (some b)) (.string s) true).run P w = .ok (.tuple #[(sval s l).getD z, .bool (sval s l).isSome]) w := by
  have hf : (Instr.findKey K (.string s) (sents l).toList).run P w = .ok (slook s l 0) w := run_findKey hK (by rw [sents]; exact findNow_s s l 0)
  rw [← slook_val s l 0]
  have hk : IsKey TypeDesc.string (Value.string s) := by simp [IsKey]
  simp only [Instr.lookup, Sem.run_bind, run_underlying hT, MapKept.run_getObj_map hb, MapKept.run_checkKey hK hk, Result.andThen]
  cases h : slook s l 0 with
  | none => rw [h] at hf; simp [hz, hf, Result.andThen]
  | some x => rw [h] at hf; simp [hf]

/-- What 'm[k] = v' makes of the entries. -/
def sput (s : ByteArray) (v : Value) (clock : Nat) (l : List SE) : List SE :=
  match slook s l 0 with
  | some (i, _) => l.modify i fun e => { e with val := v }
  | none => l ++ [⟨s, v, clock⟩]
def sdel (s : ByteArray) (l : List SE) : List SE :=
  match slook s l 0 with
  | some (i, _) => l.eraseIdx i
  | none => l

theorem bytes_eq_of_beq {a b : ByteArray} (h : (a == b) = true) : a = b := (bytes_beq a b).1 h

theorem run_mapUpdate_s (hT : P.underlying T = some (.map K E)) (hK : P.underlying K = some .string)
    (hb : w.heap[b]? = some (.map (sents l) clock)) (s : ByteArray) (v : Value) :
    ∃ clock', (Instr.mapUpdate T (.map (some b)) (.string s) v).run P w = .ok () { w with heap := w.heap.setIfInBounds b (.map (sents (sput s v clock l)) clock') } := by
  have hf : (Instr.findKey K (.string s) (sents l).toList).run P w = .ok (slook s l 0) w := run_findKey hK (by rw [sents]; exact findNow_s s l 0)
  have hk : IsKey TypeDesc.string (Value.string s) := by simp [IsKey]
  unfold sput
  cases h : slook s l 0 with
  | none =>
    refine ⟨clock + 1, ?_⟩
    rw [h] at hf
    simp only [Instr.mapUpdate, Sem.run_bind, run_underlying hT, MapKept.run_getObj_map hb, MapKept.run_checkKey hK hk, hf, Result.andThen, run_setObj_map _ hb]
    simp [sents, SE.ent]
  | some x =>
    obtain ⟨i, u⟩ := x
    refine ⟨clock, ?_⟩
    rw [h] at hf
    obtain ⟨_, e, he, hse, _⟩ := slook_some h
    have hs : s = e.key := bytes_eq_of_beq hse
    have hi : (sents l)[i]? = some e.ent := by simp [sents] at he ⊢; exact ⟨e, he, rfl⟩
    have hkk : ((((sents l)[i]?).map (·.key)).getD (.string s)) = .string s := by rw [hi]; simp [SE.ent, hs]
    simp only [Instr.mapUpdate, Sem.run_bind, run_underlying hT, MapKept.run_getObj_map hb, MapKept.run_checkKey hK hk, hf, Result.andThen, run_setObj_map _ hb, hkk, run_keyThatStays hk]
    congr 4
    apply Array.ext'
    simp only [sents, Array.toList_modify]
    apply List.ext_getElem?
    intro j
    simp only [List.getElem?_modify, List.getElem?_map]
    by_cases hij : i = j
    · subst hij
      simp only [Nat.sub_zero] at he
      simp [he, SE.ent, hs]
    · simp [hij]

theorem map_eraseIdx {α β : Type} (f : α → β) : ∀ (l : List α) (i : Nat), (l.map f).eraseIdx i = (l.eraseIdx i).map f
  | [], _ => rfl
  | _ :: _, 0 => rfl
  | a :: l, i + 1 => by simp [map_eraseIdx f l i]

theorem run_delete_s (hT : P.underlying T = some (.map K E)) (hK : P.underlying K = some .string) (t : TypeId)
    (hb : w.heap[b]? = some (.map (sents l) clock)) (s : ByteArray) :
    (Builtin.delete_ #[T, K] t #[.map (some b), .string s]).run P w = .ok (.tuple #[]) { w with heap := w.heap.setIfInBounds b (.map (sents (sdel s l)) clock) } := by
  have hf : (Instr.findKey K (.string s) (sents l).toList).run P w = .ok (slook s l 0) w := run_findKey hK (by rw [sents]; exact findNow_s s l 0)
  have hk : IsKey TypeDesc.string (Value.string s) := by simp [IsKey]
  unfold sdel
  cases h : slook s l 0 with
  | none =>
    rw [h] at hf
    simp [Builtin.delete_, run_underlying hT, MapKept.run_getObj_map hb, MapKept.run_checkKey hK hk, hf, Result.andThen, run_setObj_map _ hb]
  | some x =>
    obtain ⟨i, u⟩ := x
    rw [h] at hf
    obtain ⟨_, e, he, _, _⟩ := slook_some h
    have hlt : i < l.length := by simpa using (List.getElem?_eq_some_iff.1 he).1
    have e2 : (sents l).eraseIdxIfInBounds i = sents (l.eraseIdx i) := by
      unfold Array.eraseIdxIfInBounds
      rw [dif_pos (by simpa [sents] using hlt)]
      apply Array.ext'
      simp [sents, map_eraseIdx]
    simp [Builtin.delete_, run_underlying hT, MapKept.run_getObj_map hb, MapKept.run_checkKey hK hk, hf, Result.andThen, run_setObj_map _ hb, e2]

theorem run_len_s (hT : P.underlying T = some (.map K E)) (t : TypeId) (hb : w.heap[b]? = some (.map (sents l) clock)) :
    (Builtin.len_ #[T] t #[.map (some b)]).run P w = .ok (goInt l.length) w := by
  simp [Builtin.len_, run_underlying hT, MapKept.run_getObj_map hb, Result.andThen, sents]
/-! ### what the entries hold -/
theorem sval_put_new {s : ByteArray} {v : Value} {c : Nat} (h : sval s l = none) : sput s v c l = l ++ [⟨s, v, c⟩] := by
  unfold sput
  rw [← slook_val s l 0] at h
  cases h' : slook s l 0 with
  | none => rfl
  | some x => rw [h'] at h; cases h
theorem sval_append (x s : ByteArray) (v : Value) (c : Nat) (h : sval s l = none) : sval x (l ++ [⟨s, v, c⟩]) = if x == s then some v else sval x l := by
  unfold sval
  rw [List.find?_append]
  cases hx : (x == s) with
  | true =>
    have e := bytes_eq_of_beq hx
    subst e
    unfold sval at h
    simp only [Option.map_eq_none_iff] at h
    simp [h, hx]
  | false => cases h2 : l.find? (fun e => x == e.key) <;> simp [hx]
def skeys (l : List SE) : List ByteArray := l.map (·.key)
theorem sval_none_iff {s : ByteArray} : sval s l = none ↔ s ∉ skeys l := by
  unfold sval skeys
  simp only [Option.map_eq_none_iff, List.find?_eq_none, List.mem_map, not_exists, not_and]
  constructor
  · intro h x hx e
    exact h x hx ((bytes_beq s x.key).2 e.symm)
  · intro h x hx e
    exact h x hx (bytes_eq_of_beq e).symm
theorem sdel_spec {s : ByteArray} {v : Value} (hn : (skeys l).Nodup) (h : sval s l = some v) :
    (skeys (sdel s l)).Nodup ∧ (sdel s l).length + 1 = l.length ∧ ∀ x, sval x (sdel s l) = if x == s then none else sval x l := by
  unfold sdel
  rw [← slook_val s l 0] at h
  cases h' : slook s l 0 with
  | none => rw [h'] at h; cases h
  | some x =>
    obtain ⟨i, u⟩ := x
    obtain ⟨_, e, he, hse, _⟩ := slook_some h'
    simp only [Nat.sub_zero] at he
    have hs : s = e.key := bytes_eq_of_beq hse
    have hlt : i < l.length := (List.getElem?_eq_some_iff.1 he).1
    refine ⟨?_, ?_, ?_⟩
    · unfold skeys at *
      exact (List.Sublist.map _ (List.eraseIdx_sublist l i)).nodup hn
    · simp only []
      rw [List.length_eraseIdx]
      simp [hlt]; omega
    · intro x
      simp only []
      have hl : l = l.take i ++ e :: l.drop (i + 1) := by
        have := List.take_append_drop i l
        rw [List.drop_eq_getElem_cons hlt] at this
        rw [(List.getElem?_eq_some_iff.1 he).2] at this
        exact this.symm
      have her : l.eraseIdx i = l.take i ++ l.drop (i + 1) := List.eraseIdx_eq_take_drop_succ l i
      generalize l.take i = p at hl her
      generalize l.drop (i + 1) = q at hl her
      rw [her]
      subst hl
      have hk1 : e.key ∉ skeys p := by
        unfold skeys at hn ⊢
        simp only [List.map_append, List.map_cons] at hn
        intro hm
        exact (List.nodup_append.1 hn).2.2 _ hm _ (.head _) rfl
      have hk2 : e.key ∉ skeys q := by
        unfold skeys at hn ⊢
        simp only [List.map_append, List.map_cons] at hn
        exact (List.nodup_cons.1 (List.nodup_append.1 hn).2.1).1
      cases hx : (x == s) with
      | true =>
        have e1 := bytes_eq_of_beq hx
        subst e1
        subst hs
        simp only [if_true]
        rw [sval_none_iff]
        unfold skeys at *
        simp only [List.map_append, List.mem_append, not_or]
        exact ⟨hk1, hk2⟩
      | false =>
        unfold sval
        have hxe : (x == e.key) = false := by rw [← hs]; exact hx
        rw [List.find?_append, List.find?_append, List.find?_cons, hxe]
        simp

/-! ### a block that is no row of cells, put in another's place -/
def mset (w : World) (b : Nat) (o : Obj) : World := { w with heap := w.heap.setIfInBounds b o }

theorem heap_mset_eq {w : World} {b : Nat} {o : Obj} (h : b < w.heap.size) : (mset w b o).heap[b]? = some o := by
  simp [mset, h]
theorem heap_mset_ne {w : World} {b : Nat} {o : Obj} {k : Nat} (h : k ≠ b) : (mset w b o).heap[k]? = w.heap[k]? := by
  simp [mset, Ne.symm h]
@[go_sem] theorem size_mset (w : World) (b : Nat) (o : Obj) : (mset w b o).heap.size = w.heap.size := by simp [mset]
@[go_sem] theorem cell_mset_ne {w : World} {b : Nat} {o : Obj} {k : Nat} {i : Nat} (h : k ≠ b) : (mset w b o).cell? ⟨k, i, none⟩ = w.cell? ⟨k, i, none⟩ := by
  simp only [World.cell?, heap_mset_ne h]
@[go_sem] theorem frozen_mset_ne {w : World} {b : Nat} {o : Obj} {k : Nat} {i : Nat} (h : k ≠ b) : (mset w b o).frozen? ⟨k, i, none⟩ = w.frozen? ⟨k, i, none⟩ := by
  simp only [World.frozen?, heap_mset_ne h]
theorem below_mset {B : Nat} {a w : World} (h : Below B a w) {b : Nat} (hb : B ≤ b) (o : Obj) : Below B a (mset w b o) :=
  h.trans ⟨rfl, rfl, rfl, by simp [mset], fun k hk => heap_mset_ne (by omega)⟩

/-! ### what a block holds, behind a step -/
theorem h_lt {w : World} {b : Nat} {x : Obj} (h : w.heap[b]? = some x) : b < w.heap.size := (Array.getElem?_eq_some_iff.1 h).1
theorem h_alloc {w : World} {o : Obj} {b : Nat} {x : Obj} (h : w.heap[b]? = some x) : (w.alloc o).heap[b]? = some x := by
  rw [(MapKept.heap_alloc w o).2 b (h_lt h)]; exact h
theorem h_new (w : World) (o : Obj) : (w.alloc o).heap[w.heap.size]? = some o := (MapKept.heap_alloc w o).1
theorem h_set_ne {w : World} {a : Addr} {u : Value} {b : Nat} {x : Obj} (hb : b ≠ a.block) (h : w.heap[b]? = some x) : (w.setCell a u).heap[b]? = some x := by
  rw [Below.heap_setCell _ _ _ _ hb]; exact h
theorem h_set_eq {w : World} {b i : Nat} {u : Value} {c : Array Value} {T : TypeId} {f : Nat × Nat} (h : w.heap[b]? = some (.cells c T f)) :
    (w.setCell ⟨b, i, none⟩ u).heap[b]? = some (.cells (c.setIfInBounds i u) T f) := by
  have hlt := h_lt h
  simp [World.setCell, Array.getElem?_modify, h]
theorem h_mset_ne {w : World} {b k : Nat} {o x : Obj} (hb : k ≠ b) (h : w.heap[k]? = some x) : (mset w b o).heap[k]? = some x := by
  rw [heap_mset_ne hb]; exact h

/-! ### what a step leaves as it was: every old block but those of a list -/
structure Keeps (fp : List Nat) (w w' : World) : Prop where
  os : w'.os = w.os
  tape : w'.tape = w.tape
  output : w'.output = w.output
  size : w.heap.size ≤ w'.heap.size
  block : ∀ k, k < w.heap.size → k ∉ fp → w'.heap[k]? = w.heap[k]?

theorem Keeps.refl (fp : List Nat) (w : World) : Keeps fp w w := ⟨rfl, rfl, rfl, Nat.le_refl _, fun _ _ _ => rfl⟩
theorem Keeps.trans {fp fp' : List Nat} {a b c : World} (h : Keeps fp a b) (k : Keeps fp' b c) (hs : ∀ x ∈ fp', x ∈ fp ∨ a.heap.size ≤ x) : Keeps fp a c :=
  ⟨k.os.trans h.os, k.tape.trans h.tape, k.output.trans h.output, Nat.le_trans h.size k.size, fun i hi hn =>
    (k.block i (Nat.lt_of_lt_of_le hi h.size) (fun hm => (hs i hm).elim hn (fun h' => by omega))).trans (h.block i hi hn)⟩
theorem Keeps.weaken {fp fp' : List Nat} {a b : World} (h : Keeps fp a b) (hs : ∀ x ∈ fp, x ∈ fp' ∨ a.heap.size ≤ x) : Keeps fp' a b :=
  ⟨h.os, h.tape, h.output, h.size, fun i hi hn => h.block i hi (fun hm => (hs i hm).elim hn (fun h' => by omega))⟩
theorem Keeps.alloc (fp : List Nat) (w : World) (o : Obj) : Keeps fp w (w.alloc o) := ⟨rfl, rfl, rfl, by simp, fun k hk _ => (MapKept.heap_alloc w o).2 k hk⟩
theorem Keeps.setCell (fp : List Nat) (w : World) (a : Addr) (u : Value) (h : a.block ∈ fp) : Keeps fp w (w.setCell a u) :=
  ⟨rfl, rfl, rfl, by simp [World.setCell], fun k _ hn => Below.heap_setCell _ _ _ _ (fun e => hn (e ▸ h))⟩
theorem Keeps.mset (fp : List Nat) (w : World) (b : Nat) (o : Obj) (h : b ∈ fp) : Keeps fp w (mset w b o) :=
  ⟨rfl, rfl, rfl, by simp [YthanhccpmonemaaGreatDoor.mset], fun k _ hn => heap_mset_ne (fun e => hn (e ▸ h))⟩
theorem Keeps.drew (fp : List Nat) (w : World) : Keeps fp w w.drew := ⟨rfl, rfl, rfl, Nat.le_refl _, fun _ _ _ => rfl⟩
theorem Keeps.drewN (fp : List Nat) (w : World) (n : Nat) : Keeps fp w (w.drewN n) := ⟨rfl, rfl, rfl, Nat.le_refl _, fun _ _ _ => rfl⟩
theorem Keeps.grown {fp : List Nat} {w w' : World} {r : Option Nat} (h : w.grownBy w' r) (hr : ∀ k, r = some k → k ∈ fp ∨ w.heap.size ≤ k) : Keeps fp w w' :=
  ⟨h.os, h.tape, h.output, h.size, fun k hk hn => h.block k hk (fun e => (hr k e.symm).elim hn (fun h' => by omega))⟩
theorem Keeps.at {fp : List Nat} {w w' : World} (h : Keeps fp w w') {k : Nat} {x : Obj} (hk : w.heap[k]? = some x) (hn : k ∉ fp) : w'.heap[k]? = some x := by
  rw [h.block k (h_lt hk) hn]; exact hk
theorem Keeps.below {B : Nat} {fp : List Nat} {w0 w w' : World} (hb : Below B w0 w) (h : Keeps fp w w') (hB : B ≤ w.heap.size) (hf : ∀ k ∈ fp, B ≤ k) : Below B w0 w' :=
  hb.trans ⟨h.os, h.tape, h.output, h.size, fun k hk => h.block k (by omega) (fun hm => by have := hf k hm; omega)⟩

/-- One map's block has turned, nothing else. -/
structure MapStep (w w' : World) (b : Nat) (l : List SE) : Prop where
  size : w'.heap.size = w.heap.size
  map : ∃ clock, w'.heap[b]? = some (.map (sents l) clock)
  keeps : Keeps [b] w w'
theorem MapStep.at {w w' : World} {b : Nat} {l : List SE} (h : MapStep w w' b l) {k : Nat} {x : Obj} (hk : w.heap[k]? = some x) (hn : k ≠ b) : w'.heap[k]? = some x := h.keeps.at hk (by simpa using hn)
theorem mapStep_mset {w : World} {b : Nat} {l : List SE} {c : Nat} (h : b < w.heap.size) : MapStep w (mset w b (.map (sents l) c)) b l :=
  ⟨size_mset _ _ _, ⟨c, heap_mset_eq h⟩, Keeps.mset _ _ _ _ (by simp)⟩

/-- One row of cells has turned, nothing else. -/
structure RowStep (w w' : World) (g : Nat) (t : TypeId) (c : Array Value) : Prop where
  size : w'.heap.size = w.heap.size
  row : w'.heap[g]? = some (.cells c t (0, 0))
  keeps : Keeps [g] w w'
theorem RowStep.at {w w' : World} {g : Nat} {t : TypeId} {c : Array Value} (h : RowStep w w' g t c) {k : Nat} {x : Obj} (hk : w.heap[k]? = some x) (hn : k ≠ g) : w'.heap[k]? = some x := h.keeps.at hk (by simpa using hn)
theorem rowStep_setRow {w : World} {g : Nat} {t : TypeId} {cur c : Array Value} (h : w.heap[g]? = some (.cells cur t (0, 0))) : RowStep w (w.setRow g c) g t c :=
  ⟨by simp [World.setRow], setRow_heap w g cur c t (0, 0) h, ⟨rfl, rfl, rfl, by simp [World.setRow], fun k _ hn => by
    simp only [World.setRow, Array.getElem?_modify]
    rw [if_neg (by simpa using fun e => hn (by simp [e]))]⟩⟩

/-! ### at the operation -/
theorem wpList_store_at {P : Program} {w : World} {ops : Array Oper} {rest : List Oper} {o : Oper} {a : Act} {Q : Exit → Act → World → Prop} (hgd : o.guard = none) (ty : TypeId) (x y : Operand) (ho : o.op = .store ty x y)
    (g off : Nat) (t : TypeId) (cur : Array Value) (hg : w.heap[g]? = some (.cells cur t (0, 0))) (hx : a.eval x = .pointer (some ⟨g, off, none⟩)) (v : Value) (hy : a.eval y = v)
    (hi : (P.info? ty).map (·.size) = some v.cells.size) (hs : off + v.cells.size ≤ cur.size) (h1 : ∀ u ∈ v.cells.toList, u.oneCell' = true)
    (hK' : ∀ w', RowStep w w' g t (cur.toList.take off ++ v.cells.toList ++ cur.toList.drop (off + v.cells.toList.length)).toArray → wpList P ops Q rest (a.put o.dst undef) w') :
    wpList P ops Q (o :: rest) a w := by
  refine wpList_plain hgd fun K' hK'' => ?_
  have hst := run_storeCells_at P g off t v.cells.toList 0 cur w hg (by simpa using hs) h1
  cases hq : P.info? ty with
  | none => simp [hq] at hi
  | some i =>
    have hsz : v.cells.size = i.size := by simp [hq] at hi; omega
    unfold Oper.wp
    simp [execOp, ho, hx, hy, Instr.storeAt, Instr.sureAddr, storeVar, sizeOf, typeInfo, hq, hsz, hst, Result.andThen]
    refine hK'' _ _ (hK' _ ?_)
    simp only [Array.length_toList, hsz, List.append_assoc]
    exact rowStep_setRow hg
theorem wpList_lookup_s {ops : Array Oper} {rest : List Oper} {o : Oper} {a : Act} {Q : Exit → Act → World → Prop} (hg : o.guard = none) (m x : Operand) (hop : o.op = Op.lookup T m x true)
    (hT : P.underlying T = some (.map K E)) (hK : P.underlying K = some .string) (z : Value) (hz : ∀ w, (zeroValue E).run P w = .ok z w) (b clock : Nat) (l : List SE) (s : ByteArray)
    (hm : a.eval m = .map (some b)) (hx : a.eval x = .string s) (hb : w.heap[b]? = some (.map (sents l) clock))
    (hK' : wpList P ops Q rest (a.put o.dst (.tuple #[(sval s l).getD z, .bool (sval s l).isSome])) w) :
    wpList P ops Q (o :: rest) a w := by
  refine wpList_plain hg fun K' hK'' => ?_
  have hrun := run_lookup_s (P := P) hT hK hb s (hz w)
  unfold Oper.wp
  simp [execOp, hop, hm, hx, hrun, Result.andThen]
  exact hK'' _ _ hK'

theorem wpList_mapUpdate_s {ops : Array Oper} {rest : List Oper} {o : Oper} {a : Act} {Q : Exit → Act → World → Prop} (hg : o.guard = none) (m x v : Operand) (hop : o.op = Op.mapUpdate T m x v)
    (hT : P.underlying T = some (.map K E)) (hK : P.underlying K = some .string) (b clock : Nat) (l : List SE) (s : ByteArray)
    (hm : a.eval m = .map (some b)) (hx : a.eval x = .string s) (val : Value) (hv : a.eval v = val) (hb : w.heap[b]? = some (.map (sents l) clock))
    (hK' : ∀ w', MapStep w w' b (sput s val clock l) → wpList P ops Q rest (a.put o.dst undef) w') :
    wpList P ops Q (o :: rest) a w := by
  refine wpList_plain hg fun K' hK'' => ?_
  obtain ⟨c', hrun⟩ := run_mapUpdate_s (P := P) hT hK hb s val
  unfold Oper.wp
  simp [execOp, hop, hm, hx, hv, hrun, Result.andThen]
  exact hK'' _ _ (hK' _ (mapStep_mset (h_lt hb)))

theorem wpList_delete_s {ops : Array Oper} {rest : List Oper} {o : Oper} {a : Act} {Q : Exit → Act → World → Prop} (hg : o.guard = none) (m x : Operand)
    (hop : o.op = Op.call { callee := Callee.builtin Builtin.delete, args := #[m, x], argTypes := #[T, K] })
    (hT : P.underlying T = some (.map K E)) (hK : P.underlying K = some .string) (b clock : Nat) (l : List SE) (s : ByteArray)
    (hm : a.eval m = .map (some b)) (hx : a.eval x = .string s) (hb : w.heap[b]? = some (.map (sents l) clock))
    (hK' : ∀ w', MapStep w w' b (sdel s l) → wpList P ops Q rest (a.put o.dst (.tuple #[])) w') :
    wpList P ops Q (o :: rest) a w := by
  refine wpList_plain hg fun K' hK'' => ?_
  have hrun := run_delete_s (P := P) hT hK o.type hb s
  unfold Oper.wp
  simp [execOp, hop, resolve, invoke, builtin, hm, hx, hrun, Result.andThen]
  exact hK'' _ _ (hK' _ (mapStep_mset (h_lt hb)))
end
end Go.Proofs.YthanhccpmonemaaGreatDoor
