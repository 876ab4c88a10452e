/- info: the plain laws. -/
import Derived.Test.YtkfillfkbhbbjaaGreatDoorLevelsE
import Derived.Test.YtkfillfkbhbbjaaGreatDoorShS
import Derived.Test.YtkfillfkbhbbjaaGreatDoorKinL
set_option maxRecDepth 100000
set_option maxHeartbeats 4000000
set_option linter.unusedSimpArgs false
set_option linter.unusedVariables false
namespace Go.Proofs.YtkfillfkbhbbjaaGreatDoor
open Go.RowKit
theorem insertion_nil (w : World) : Calls Tryz.prog 143 #[.slice none 0 0, .int .i64 0, .int .i64 0] w fun e w' => e = .returned (.tuple #[]) ∧ Keeps [] w w' := by
 go_enter Tryz.func143, Tryz.ntmps143
 go_wp2_with fail
 go_loopg [6] 1 (fun g j wr => wr = w ∧ j = .int .i64 1)
 case atStart => exact ⟨rfl, rfl⟩
 case round =>
  obtain ⟨rfl, rfl⟩ := hrel
  go_wp2_with fail
  go_end0
  exact ⟨rfl, Keeps.refl [] _⟩
theorem pdq_nil (w : World) (l : Int) : Calls Tryz.prog 118 #[.slice none 0 0, .int .i64 0, .int .i64 0, .int .i64 l] w fun e w' => e = .returned (.tuple #[]) ∧ Keeps [] w w' := by
 go_enter Tryz.func118, Tryz.ntmps118
 go_wp2_with fail
 go_loopg [1, 2] 1 (fun g j k wr => wr = w ∧ j = .int .i64 0 ∧ k = .int .i64 0)
 case atStart => exact ⟨rfl, rfl, rfl⟩
 case round =>
  obtain ⟨rfl, rfl, rfl⟩ := hrel
  go_wp2_with fail
  refine (insertion_nil _).mono ?_
  rintro r w' ⟨rfl, hk⟩
  go_wp2_with fail
  exact bodyPost_ret (v := .tuple #[]) (by simp [results, Tryz.results118]) rfl ⟨rfl, hk⟩
theorem len_0 (w : World) : Calls Tryz.prog 119 #[.int .u64 0] w fun e w' => ∃ l, e = .returned (.int .i64 l) ∧ w' = w := by
 go_enter Tryz.func119, Tryz.ntmps119
 go_wp2
 exact bodyPost_ret (by simp [results, Tryz.results119] <;> rfl) rfl ⟨_, rfl, rfl⟩
theorem sort_nil (w : World) : Calls Tryz.prog 79 #[.slice none 0 0] w fun e w' => e = .returned (.tuple #[]) ∧ Keeps [] w w' := by
 go_enter Tryz.func79, Tryz.ntmps79
 go_wp2_with fail
 refine (len_0 _).mono ?_
 rintro r w' ⟨l, rfl, rfl⟩
 go_wp2_with fail
 refine (pdq_nil _ l).mono ?_
 rintro r w2 ⟨rfl, hk⟩
 go_wp2_with fail
 go_end0
 exact ⟨rfl, hk⟩
set_option maxRecDepth 100000 in
theorem strings_nil (w : World) : Calls Tryz.prog 46 #[.slice none 0 0] w fun e w' => e = .returned (.tuple #[]) ∧ Keeps [] w w' := by
 go_enter Tryz.func46, Tryz.ntmps46
 go_wp2_with fail
 refine (sort_nil _).mono ?_
 rintro r w2 ⟨rfl, hk⟩
 go_wp2_with fail
 go_end0
 exact ⟨rfl, hk⟩
end Go.Proofs.YtkfillfkbhbbjaaGreatDoor
namespace Go.Proofs.YtkfillfkbhbbjaaGreatDoor
open Go.RowKit Go.Sort

theorem ltB_iff : ∀ {x y : List UInt8}, ltB x y = true ↔ x < y
 | [], [] => by simp [ltB]
 | _ :: _, [] => by simp [ltB]
 | [], _ :: _ => by simp [ltB]
 | a :: x, b :: y => by
  rw [List.cons_lt_cons_iff, ltB]
  by_cases h : a < b
  ·simp [h]
  ·rw [if_neg h]
   by_cases h2 : b < a
   ·rw [if_pos h2]
    have : a ≠ b := fun e => by subst e; exact h h2
    simp [h, this]
   ·rw [if_neg h2, ltB_iff]
    have : a = b := UInt8.le_antisymm (UInt8.not_lt.1 h2) (UInt8.not_lt.1 h)
    simp [this]
theorem insB_perm (s : ByteArray) : ∀ l, List.Perm (insB s l) (s :: l)
 | [] => List.Perm.refl _
 | x :: l => by
  rw [insB]
  split
  ·exact ((insB_perm s l).cons x).trans (List.Perm.swap s x l)
  ·exact List.Perm.refl _
theorem sortB_perm : ∀ l, List.Perm (sortB l) l
 | [] => List.Perm.refl _
 | x :: l => (insB_perm x (sortB l)).trans ((sortB_perm l).cons x)
def leS (x y : ByteArray) : Prop := x.data.toList ≤ y.data.toList
theorem insB_sorted (s : ByteArray) : ∀ l, l.Pairwise leS → (insB s l).Pairwise leS
 | [], _ => by simp [insB]
 | x :: l, h => by
  rw [List.pairwise_cons] at h
  rw [insB]
  split
  ·rename_i hlt
   rw [List.pairwise_cons]
   refine ⟨fun y hy => ?_, insB_sorted s l h.2⟩
   rcases List.mem_cons.1 ((insB_perm s l).mem_iff.1 hy) with rfl | hy
   ·exact List.le_of_lt (ltB_iff.1 hlt)
   ·exact h.1 y hy
  ·rename_i hlt
   have hsx : leS s x := List.not_lt.1 fun h2 => hlt (ltB_iff.2 h2)
   rw [List.pairwise_cons, List.pairwise_cons]
   refine ⟨fun y hy => ?_, h.1, h.2⟩
   rcases List.mem_cons.1 hy with rfl | hy
   ·exact hsx
   ·exact List.le_trans hsx (h.1 y hy)
theorem sortB_sorted : ∀ l, (sortB l).Pairwise leS
 | [] => List.Pairwise.nil
 | x :: l => insB_sorted x _ (sortB_sorted l)
theorem leS_antisymm {x y : ByteArray} (h1 : leS x y) (h2 : leS y x) : x = y := by
 have h : x.data.toList = y.data.toList := List.le_antisymm h1 h2
 have h3 : x.data = y.data := by rw [← Array.toList_inj]; exact h
 cases x; cases y; simp_all
theorem sortB_of_perm {l l' : List ByteArray} (h : List.Perm l l') : sortB l = sortB l' :=
 ((sortB_perm l).trans (h.trans (sortB_perm l').symm)).eq_of_pairwise (le := leS) (fun _ _ _ _ h1 h2 => leS_antisymm h1 h2) (sortB_sorted l) (sortB_sorted l')
theorem mergeSort_sortB (l : List ByteArray) : (l.map (·.data.toList)).mergeSort (fun x y => decide (x ≤ y)) = (sortB l).map (·.data.toList) := by
 have hp := List.mergeSort_perm (l.map (·.data.toList)) (fun x y => decide (x ≤ y))
 have hs := List.pairwise_mergeSort (le := fun (x y : List UInt8) => decide (x ≤ y)) (fun a b c h1 h2 => by simp only [decide_eq_true_eq] at *; exact List.le_trans h1 h2) (fun a b => by simp only [Bool.or_eq_true, decide_eq_true_eq]; exact List.le_total a b) (l.map (·.data.toList))
 refine (hp.trans ((sortB_perm l).map _).symm).eq_of_pairwise (le := fun x y => x ≤ y) (fun _ _ _ _ h1 h2 => List.le_antisymm h1 h2) (hs.imp fun h => by simpa using h) ?_
 rw [List.pairwise_map]
 exact (sortB_sorted l).imp fun h => h
theorem toBA (s : ByteArray) : (⟨s.data.toList.toArray⟩ : ByteArray) = s := by cases s; simp
set_option maxHeartbeats 1000000 in
/-- A slice of strings of one's own, sorted. -/
theorem sort_str {w : World} {b : Nat} {T : Nat → Prop} {l : List ByteArray} {v : Value} (hO : OwnL StrE 9 1 w b T l v) (hl : l.length ≤ 1000000) :
  Calls Tryz.prog 46 #[v] w fun r w' => r = .returned (.tuple #[]) ∧ OwnL StrE 9 1 w' b T (sortB l) v ∧ ∃ fl : List Nat, (∀ x ∈ fl, T x) ∧ Keeps fl w w' := by
 obtain ⟨xs, ho, ht, hx⟩ := hO
 have hxs0 : ∀ {l : List ByteArray} {xs : List Value}, Elems (StrE w (fun g => T g ∧ v.ownBlock ≠ some g)) l xs → xs = l.map Value.string := by
  intro l xs h
  induction h with
  | nil => rfl
  | cons h1 _ ih => rw [h1, ih]; rfl
 have hxs : xs = l.map Value.string := hxs0 hx
 clear hxs0
 have hE : ∀ (w' : World) (S : Nat → Prop) (l : List ByteArray), Elems (StrE w' S) l (l.map Value.string) := by
  intro w' S l
  induction l with
  | nil => exact .nil
  | cons a l ih => exact .cons (c := [.string a]) rfl ih
 rcases ho.2 with ⟨rfl, hn⟩ | ⟨g, cap, cur, rfl, hb, hg, h1, h2, h3, h4⟩
 ·have : l = [] := List.length_eq_zero_iff.1 hn
  subst this
  refine (strings_nil w).mono fun r w' ⟨h5, h6⟩ => ⟨h5, ?_, [], by simp, h6⟩
  exact OwnL.nil
 ·have hcell : ∀ j (hj : j < l.length), cur[j]? = some (.string l[j]) := fun j hj => by
   have : (cur.toList.take (l.length * 1))[j]? = some (.string l[j]) := by rw [h4, hxs]; simp [hj]
   rw [List.getElem?_take] at this
   split at this
   ·simpa using this
   ·cases this
  have hH : Holds encStr w g 0 (l.map (·.data.toList)).toArray := fun j hj => by
   have hj : j < l.length := by simpa using hj
   refine ⟨?_, by rw [Nat.zero_add]; exact frozen_of_heap hg j⟩
   rw [Nat.zero_add, cell_of_heap hg, hcell j hj]
   simp [encStr, hj, toBA]
  have hc := strings_any g 0 cap (l.map (·.data.toList)) w hH (h_lt hg) (by simp; omega)
  rw [List.length_map] at hc
  refine hc.mono fun r w' ⟨h5, n, os, h6⟩ => ⟨h5, ?_⟩
  rw [mergeSort_sortB] at h6
  have hlen : (sortB l).length = l.length := (sortB_perm l).length_eq
  subst h6
  have hk : Keeps [g] w (grow (putRow encStr (Sort.ahead w n) g 0 ((sortB l).map (·.data.toList)).toArray) os) := by
   refine ⟨rfl, rfl, rfl, by simp, fun k hk hn => ?_⟩
   rw [heap_grow_old _ _ (by simpa using hk)]
   simp only [putRow, mapBlock, heap_ahead, Array.getElem?_modify]
   rw [if_neg (by simp at hn; exact fun e => hn e.symm)]
  have hg2 : (grow (putRow encStr (Sort.ahead w n) g 0 ((sortB l).map (·.data.toList)).toArray) os).heap[g]? = some (.cells (putCells encStr 0 ((sortB l).map (·.data.toList)).toArray cur) 9 (0, 0)) := by
   rw [heap_grow_old _ _ (by simpa using h_lt hg)]
   simp only [putRow, mapBlock, heap_ahead, Array.getElem?_modify, hg]
   simp [onCells]
  refine ⟨⟨(sortB l).map Value.string, ⟨by simp, .inr ⟨g, cap, _, by rw [hlen], hb, hg2, by omega, h2, by simp [putCells]; omega, ?_⟩⟩, ht, hE _ _ _⟩, [g], by simp; exact ht g rfl, hk⟩
  apply List.ext_getElem?
  intro j
  rw [List.getElem?_take]
  by_cases hj : j < l.length
  ·rw [if_pos (by omega)]
   have hjs : j < (sortB l).length := by omega
   have hj2 : j < cur.size := by omega
   simp [putCells, hj2, hjs, encStr, toBA]
  ·rw [if_neg (by omega), List.getElem?_eq_none (by simp; omega)]
end Go.Proofs.YtkfillfkbhbbjaaGreatDoor
namespace Go.Proofs.YtkfillfkbhbbjaaGreatDoor
open Go.RowKit

def globG (t : Thing) : Bool := !(decide (t.1 > 0) || specialF t.2)
def arrK (st : NS) (kf : Kinds) (t : Thing) : Bool := kof (rootD st t) kf == 2
def pickN (st : NS) (kf : Kinds) (arr : Bool) (l : List Thing) : List ByteArray := (l.filter fun t => globG t && (arrK st kf t == arr)).map (·.2)
theorem namesF_ok {st : NS} {kf : Kinds} {arr : Bool} : ∀ {l : List Thing} {r : List ByteArray}, namesF st kf arr l = some r → (∀ t ∈ l, globG t = true → rootN st t = some (rootD st t)) ∧ r = pickN st kf arr l
 | [], r, h => by
  simp only [namesF, Option.some.injEq] at h
  exact ⟨by simp, h.symm⟩
 | t :: l, r, h => by
  unfold namesF at h
  by_cases hg : (decide (t.1 > 0) || specialF t.2) = true
  ·rw [if_pos hg] at h
   obtain ⟨h1, h2⟩ := namesF_ok h
   have hgf : globG t = false := by unfold globG; rw [hg]; rfl
   refine ⟨fun u hu hgu => ?_, ?_⟩
   ·rcases List.mem_cons.1 hu with rfl | hu
    ·rw [hgf] at hgu; cases hgu
    ·exact h1 u hu hgu
   ·rw [h2]; unfold pickN; rw [List.filter_cons_of_neg (by rw [hgf]; simp)]
  ·rw [if_neg hg] at h
   have hgt : globG t = true := by unfold globG; simp only [Bool.not_eq_true] at hg; rw [hg]; rfl
   simp only [Option.bind_eq_bind, Option.bind_eq_some_iff] at h
   obtain ⟨x, hx, rest, hr, h⟩ := h
   have hD : rootD st t = x := by unfold rootD; rw [hx]; rfl
   obtain ⟨h1, h2⟩ := namesF_ok hr
   refine ⟨fun u hu hgu => ?_, ?_⟩
   ·rcases List.mem_cons.1 hu with rfl | hu
    ·rw [hx, hD]
    ·exact h1 u hu hgu
   ·subst h2
    unfold pickN
    by_cases ha : ((kof x kf == 2) == arr) = true
    ·rw [if_pos ha] at h
     rw [List.filter_cons_of_pos (by unfold arrK; rw [hgt, hD, ha]; rfl)]
     simpa [pickN] using h.symm
    ·rw [if_neg ha] at h
     rw [List.filter_cons_of_neg (by unfold arrK; rw [hgt, hD]; simpa using ha)]
     simpa [pickN] using h.symm
theorem pickN_perm {st : NS} {kf : Kinds} {arr : Bool} {p l : List Thing} (h : p.Perm l) : (pickN st kf arr p).Perm (pickN st kf arr l) := (h.filter _).map _
theorem pickN_len {st : NS} {kf : Kinds} {arr : Bool} (l : List Thing) : (pickN st kf arr l).length ≤ l.length := by
 unfold pickN; rw [List.length_map]; exact List.length_filter_le _ _
theorem pickN_yes {st : NS} {kf : Kinds} {arr : Bool} {t : Thing} (hg : globG t = true) (ha : arrK st kf t = arr) (p : List Thing) : pickN st kf arr (p ++ [t]) = pickN st kf arr p ++ [t.2] := by
 unfold pickN; rw [List.filter_append, List.map_append, List.filter_cons_of_pos (by rw [hg, ha]; simp)]; rfl
theorem pickN_no {st : NS} {kf : Kinds} {arr : Bool} {t : Thing} (h : globG t = false ∨ arrK st kf t = !arr) (p : List Thing) : pickN st kf arr (p ++ [t]) = pickN st kf arr p := by
 unfold pickN; rw [List.filter_append, List.map_append, List.filter_cons_of_neg (by rcases h with h | h <;> (rw [h]; cases arr <;> simp))]; simp
/-- A slice of flags; a slice of such slices; what info tells. -/
def BoolE (_ : World) (_ : Nat → Prop) (u : Bool) (c : List Value) : Prop := c = [.bool u]
theorem boolL : ElemL BoolE 1 := {
 keep := fun h _ _ _ => h
 len := fun h => by rw [h]; rfl
 one := fun h u hu => by rw [h] at hu; simp at hu; rw [hu]; rfl }
def FlagsE (w : World) (S : Nat → Prop) (l : List Bool) (c : List Value) : Prop := ∃ a cap, c = [.slice a l.length cap] ∧ SliceR BoolE w S l (.slice a l.length cap)
theorem flagsL : ElemL FlagsE 1 := {
 keep := fun ⟨a, cap, h, hs⟩ hk hf hS => ⟨a, cap, h, (hs.kp boolL hk hf).to boolL hS⟩
 len := fun ⟨_, _, h, _⟩ => by rw [h]; rfl
 one := fun ⟨_, _, h, _⟩ u hu => by rw [h] at hu; simp at hu; rw [hu]; rfl }
def InfoV (w : World) (S : Nat → Prop) (x : InfoP) (v : Value) : Prop := ∃ sa sc aa ac pa pc, v = .agg #[.slice sa x.scalars.length sc, .slice aa x.arrays.length ac, .slice pa x.params.length pc] ∧ SliceR StrE w S x.scalars (.slice sa x.scalars.length sc) ∧ SliceR StrE w S x.arrays (.slice aa x.arrays.length ac) ∧ SliceR FlagsE w S x.params (.slice pa x.params.length pc)
theorem InfoV.kp {w w' : World} {S : Nat → Prop} {fp : List Nat} {x : InfoP} {v : Value} (h : InfoV w S x v) (hk : Keeps fp w w') (hf : ∀ x ∈ fp, ¬ S x) : InfoV w' S x v := by
 obtain ⟨sa, sc, aa, ac, pa, pc, h, h1, h2, h3⟩ := h
 exact ⟨sa, sc, aa, ac, pa, pc, h, h1.kp strL hk hf, h2.kp strL hk hf, h3.kp flagsL hk hf⟩
theorem parsF_len {st : NS} {kf : Kinds} {i : Nat} : ∀ {ps : List ByteArray} {x : List Bool}, parsF st kf i ps = some x → x.length = ps.length
 | [], x, h => by simp only [parsF, Option.some.injEq] at h; rw [← h]; rfl
 | s :: ps, x, h => by
  unfold parsF at h
  simp only [Option.bind_eq_bind, Option.bind_eq_some_iff] at h
  obtain ⟨_, _, rest, hr, h⟩ := h
  have := parsF_len hr
  simp only [Option.some.injEq] at h
  rw [← h]; simp [this]
end Go.Proofs.YtkfillfkbhbbjaaGreatDoor
