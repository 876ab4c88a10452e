/- The plain law of TableOrder: pairs of a key and a number; what a Put and a Drop make of them. -/
import Derived.Test.YtaoamogmeefojaaLivesPlain
namespace Go.Proofs.Ytaoamogmeefojaa
open Go.RowKit

/-- float64(i). -/
def fl (i : Nat) : Nat := FloatKind.f64.nearest (i : Int)
theorem fl_eq : ∀ i, i < 150 → (FloatKind.f64.format.order (zClean (fl i)) (fl i) == some Ordering.eq) = true := by
  have h : ((List.range 150).all fun i => FloatKind.f64.format.order (zClean (fl i)) (fl i) == some Ordering.eq) = true := by kernel_rfl
  intro i hi
  exact (List.all_eq_true.1 h) i (List.mem_range.2 hi)

abbrev AB := List (ByteArray × Nat)
def toKV (p : ByteArray × Nat) : KV := ⟨p.1, 1, zClean (fl p.2), ⟨#[]⟩, 3⟩

/-- Where the inner loop stands after j rounds. -/
def atTo (k : ByteArray) (ks : List ByteArray) : Nat → Int
  | 0 => -1
  | j + 1 => if ks[j]? = some k then (j : Int) else atTo k ks j
theorem atTo_spec (k : ByteArray) (ks : List ByteArray) : ∀ j, (atTo k ks j = -1 ∧ ∀ i, i < j → ks[i]? ≠ some k) ∨ ∃ i : Nat, i < j ∧ atTo k ks j = i ∧ ks[i]? = some k
  | 0 => .inl ⟨rfl, by intro i hi; omega⟩
  | j + 1 => by
    unfold atTo
    by_cases h : ks[j]? = some k
    · rw [if_pos h]; exact .inr ⟨j, by omega, rfl, h⟩
    · rw [if_neg h]
      rcases atTo_spec k ks j with ⟨h1, h2⟩ | ⟨i, h1, h2, h3⟩
      · refine .inl ⟨h1, fun i hi => ?_⟩
        by_cases hij : i = j
        · subst hij; exact h
        · exact h2 i (by omega)
      · exact .inr ⟨i, by omega, h2, h3⟩
theorem atTo_bd (k : ByteArray) (ks : List ByteArray) (j : Nat) : -1 ≤ atTo k ks j ∧ atTo k ks j < j := by
  rcases atTo_spec k ks j with ⟨h1, _⟩ | ⟨i, h1, h2, _⟩ <;> omega

theorem kfind_mem {vs : List KV} (hn : (vs.map (·.key)).Nodup) {v : KV} (hv : v ∈ vs) : kfind v.key vs = some v := by
  unfold kfind
  induction vs with
  | nil => cases hv
  | cons a r ih =>
    simp only [List.map_cons, List.nodup_cons, List.mem_map, not_exists, not_and] at hn
    rw [List.find?_cons]
    rcases List.mem_cons.1 hv with rfl | hv
    · rw [beq_self]
    · have : (v.key == a.key) = false := by
        cases hb : (v.key == a.key) with
        | false => rfl
        | true => exact absurd (bytes_eq_of_beq hb) (hn.1 v hv)
      rw [this]
      exact ih hn.2 hv
theorem kfind_not {vs : List KV} {k : ByteArray} (h : k ∉ vs.map (·.key)) : kfind k vs = none := by
  unfold kfind
  rw [List.find?_eq_none]
  intro v hv hb
  exact h (by rw [bytes_eq_of_beq hb]; exact List.mem_map_of_mem hv)

def abKeys (ab : AB) : List ByteArray := ab.map (·.1)
theorem abKeys_toKV (ab : AB) : (ab.map toKV).map (·.key) = abKeys ab := by simp [abKeys, toKV, Function.comp_def]

/-- What the law's loop does: with the i-th key. -/
theorem ab_found {ab : AB} (hn : (abKeys ab).Nodup) {k : ByteArray} {a : Nat} (ha : (abKeys ab)[a]? = some k) : ∃ x, ab[a]? = some (k, x) ∧ kfind k (ab.map toKV) = some (toKV (k, x)) := by
  unfold abKeys at ha
  rw [List.getElem?_map] at ha
  cases h : ab[a]? with
  | none => rw [h] at ha; cases ha
  | some p =>
    rw [h] at ha
    simp only [Option.map_some, Option.some.injEq] at ha
    subst ha
    refine ⟨p.2, rfl, ?_⟩
    have hm : toKV p ∈ ab.map toKV := List.mem_map_of_mem (List.mem_of_getElem? h)
    have := kfind_mem (vs := ab.map toKV) (by rw [abKeys_toKV]; exact hn) hm
    exact this

theorem ab_other {ab : AB} (hn : (abKeys ab).Nodup) {k : ByteArray} {a j : Nat} (ha : (abKeys ab)[a]? = some k) (hj : j ≠ a) {p : ByteArray × Nat} (hp : ab[j]? = some p) : (k == p.1) = false := by
  cases hb : (k == p.1) with
  | false => rfl
  | true =>
    have e := bytes_eq_of_beq hb
    have h2 : (abKeys ab)[j]? = some k := by unfold abKeys; rw [List.getElem?_map, hp, e]; rfl
    have h3 := (List.getElem?_eq_some_iff.1 ha)
    have h4 := (List.getElem?_eq_some_iff.1 h2)
    obtain ⟨l1, e1⟩ := h3
    obtain ⟨l2, e2⟩ := h4
    exact absurd ((List.getElem_inj hn).1 (e2.trans e1.symm)) hj

theorem ab_put_old {ab : AB} (hn : (abKeys ab).Nodup) {k : ByteArray} {a n : Nat} (ha : (abKeys ab)[a]? = some k) : kput (toKV (k, n)) (ab.map toKV) = (ab.set a (k, n)).map toKV := by
  obtain ⟨x, hx, hf⟩ := ab_found hn ha
  unfold kput
  have : (kfind (toKV (k, n)).key (ab.map toKV)).isSome = true := by show (kfind k (ab.map toKV)).isSome = true; rw [hf]; rfl
  rw [this, if_pos rfl]
  apply List.ext_getElem?
  intro j
  simp only [List.getElem?_map, List.getElem?_set]
  by_cases hja : a = j
  · subst hja
    have hlt := (List.getElem?_eq_some_iff.1 hx).1
    rw [hx]
    simp [hlt, toKV, beq_self]
  · cases hp : ab[j]? with
    | none => simp [hja]
    | some p =>
      have := ab_other hn ha (fun e => hja e.symm) hp
      simp [hja, toKV, this]
theorem ab_put_new {ab : AB} {k : ByteArray} {n : Nat} (h : k ∉ abKeys ab) : kput (toKV (k, n)) (ab.map toKV) = (ab ++ [(k, n)]).map toKV := by
  unfold kput
  have h1 : kfind k (ab.map toKV) = none := kfind_not (by rw [abKeys_toKV]; exact h)
  have : (kfind (toKV (k, n)).key (ab.map toKV)).isSome = false := by show (kfind k (ab.map toKV)).isSome = false; rw [h1]; rfl
  rw [this]
  simp
theorem filter_erase {α : Type} {p : α → Bool} : ∀ {l : List α} {a : Nat}, (∀ j x, l[j]? = some x → (p x = false ↔ j = a)) → l.filter p = l.eraseIdx a
  | [], _, _ => rfl
  | x :: l, 0, h => by
    have h0 := (h 0 x rfl).2 rfl
    rw [List.filter_cons, h0]
    simp only [Bool.false_eq_true, if_false, List.eraseIdx_cons_zero]
    rw [List.filter_eq_self]
    intro y hy
    obtain ⟨j, hj⟩ := List.mem_iff_getElem?.1 hy
    cases hp : p y with
    | true => rfl
    | false => have := (h (j + 1) y (by simpa using hj)).1 hp; omega
  | x :: l, a + 1, h => by
    have h0 : p x = true := by
      cases hp : p x with
      | true => rfl
      | false => have := (h 0 x rfl).1 hp; omega
    rw [List.filter_cons, h0]
    simp only [if_true, List.eraseIdx_cons_succ]
    congr 1
    refine filter_erase fun j y hj => ?_
    have := h (j + 1) y (by simpa using hj)
    rw [this]; omega
theorem ab_del {ab : AB} (hn : (abKeys ab).Nodup) {k : ByteArray} {a : Nat} (ha : (abKeys ab)[a]? = some k) : kdel k (ab.map toKV) = (ab.eraseIdx a).map toKV := by
  obtain ⟨x, hx, _⟩ := ab_found hn ha
  unfold kdel
  rw [List.filter_map]
  congr 1
  refine filter_erase fun j y hj => ?_
  constructor
  · intro h
    apply Classical.byContradiction
    intro hne
    have h2 := ab_other hn ha hne hj
    simp [toKV, h2] at h
  · intro e
    subst e
    rw [hx] at hj
    obtain rfl := Option.some.inj hj
    simp [toKV, beq_self]
theorem erase_halves {α : Type} (l : List α) (a : Nat) : l.take a ++ l.drop (a + 1) = l.eraseIdx a := (List.eraseIdx_eq_take_drop_succ l a).symm
theorem abKeys_erase (ab : AB) (a : Nat) : abKeys (ab.eraseIdx a) = (abKeys ab).eraseIdx a := by unfold abKeys; rw [map_eraseIdx]
theorem abKeys_set {ab : AB} {k : ByteArray} {a n : Nat} (ha : (abKeys ab)[a]? = some k) : abKeys (ab.set a (k, n)) = abKeys ab := by
  unfold abKeys at *
  apply List.ext_getElem?
  intro j
  rw [List.getElem?_map, List.getElem?_set]
  by_cases h : a = j
  · subst h
    have hlt : a < ab.length := by simpa using (List.getElem?_eq_some_iff.1 ha).1
    simp [hlt] at ha ⊢
    exact ha.symm
  · simp [h]
end Go.Proofs.Ytaoamogmeefojaa
