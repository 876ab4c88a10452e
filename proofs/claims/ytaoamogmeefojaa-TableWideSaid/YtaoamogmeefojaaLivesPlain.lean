/- The plain law of TableLives: lists of times alone. -/
import Derived.Test.YtaoamogmeefojaaKnownLaw
namespace Go.Proofs.Ytaoamogmeefojaa

/-- The key of the i-th entry: one letter. -/
def kI (i : Nat) : ByteArray := ⟨#[UInt8.ofNat (97 + i)]⟩
def one64 : Nat := 4607182418800017408
theorem zc1 : zClean 4607182418800017408 = 4607182418800017408 := by kernel_rfl
/-- The i-th entry. -/
def kvI (f : Nat → Nat) (i : Nat) (t : Int) : KV := ⟨kI i, 1, f i, ⟨#[]⟩, t⟩
def vsFrom (f : Nat → Nat) : Nat → List Int → List KV
  | _, [] => []
  | i, t :: ts => kvI f i t :: vsFrom f (i + 1) ts
def vsL (f : Nat → Nat) (ts : List Int) : List KV := vsFrom f 0 ts

theorem vsFrom_append (f : Nat → Nat) : ∀ (i : Nat) (a b : List Int), vsFrom f i (a ++ b) = vsFrom f i a ++ vsFrom f (i + a.length) b
  | i, [], b => by simp [vsFrom]
  | i, t :: a, b => by simp [vsFrom, vsFrom_append f (i + 1) a b]; congr 1; omega
theorem vsFrom_length (f : Nat → Nat) : ∀ (i : Nat) (a : List Int), (vsFrom f i a).length = a.length
  | _, [] => rfl
  | i, _ :: a => by simp [vsFrom, vsFrom_length f (i + 1) a]
theorem vsFrom_times (f : Nat → Nat) : ∀ (i : Nat) (a : List Int), (vsFrom f i a).map (·.t) = a
  | _, [] => rfl
  | i, t :: a => by simp [vsFrom, vsFrom_times f (i + 1) a, kvI]
theorem kI_inj {i j : Nat} (hi : i < 100) (hj : j < 100) (h : kI i = kI j) : i = j := by
  unfold kI at h
  simp only [ByteArray.mk.injEq, Array.mk.injEq, List.cons.injEq, and_true] at h
  have := congrArg UInt8.toNat h
  simp [UInt8.toNat_ofNat'] at this
  omega
theorem vsFrom_mem {f : Nat → Nat} : ∀ {i : Nat} {a : List Int} {v : KV}, v ∈ vsFrom f i a → ∃ j, i ≤ j ∧ j < i + a.length ∧ v.key = kI j ∧ v.t ∈ a
  | _, [], _, h => by cases h
  | i, t :: a, v, h => by
    rcases List.mem_cons.1 h with rfl | h
    · exact ⟨i, Nat.le_refl _, by simp, rfl, by simp [kvI]⟩
    · obtain ⟨j, h1, h2, h3, h4⟩ := vsFrom_mem h
      exact ⟨j, by omega, by simp; omega, h3, by simp [h4]⟩

/-- A new letter goes behind the others. -/
theorem kput_vsL (f : Nat → Nat) (ts : List Int) (t : Int) (h : ts.length < 100) : kput (kvI f ts.length t) (vsL f ts) = vsL f (ts ++ [t]) := by
  have hn : kfind (kI ts.length) (vsL f ts) = none := by
    unfold kfind
    rw [List.find?_eq_none]
    intro v hv hb
    obtain ⟨j, _, h2, h3, _⟩ := vsFrom_mem hv
    have e := bytes_eq_of_beq hb
    rw [h3] at e
    have := kI_inj (by omega) (by omega) e
    omega
  unfold kput
  have : (kfind (kvI f ts.length t).key (vsL f ts)).isSome = false := by show (kfind (kI ts.length) (vsL f ts)).isSome = false; rw [hn]; rfl
  rw [this]
  unfold vsL
  rw [vsFrom_append]
  simp [vsFrom]

theorem vsL_TB {f : Nat → Nat} {ts : List Int} (h : ∀ t ∈ ts, 0 ≤ t ∧ t ≤ 18446744073709551615) : TB (vsL f ts) := by
  intro v hv
  obtain ⟨_, _, _, _, h4⟩ := vsFrom_mem hv
  exact h _ h4

/-! ### times -/
def lst (ts : List Int) : Int := ts.foldl min 1099511627776
theorem dueFold_from (ttl : Int) (h0 : 0 ≤ ttl) (h1 : ttl ≤ 50) : ∀ (ts : List Int) (a : Int), (∀ t ∈ ts, 0 ≤ t ∧ t ≤ 149) → ts.foldl (dueStep ttl) (a + ttl) = ts.foldl min a + ttl
  | [], a, _ => rfl
  | t :: ts, a, h => by
    have ht := h t List.mem_cons_self
    have e : dueStep ttl (a + ttl) t = min a t + ttl := by
      unfold dueStep
      rw [if_pos (by omega)]
      omega
    simp only [List.foldl_cons, e]
    exact dueFold_from ttl h0 h1 ts (min a t) (fun x hx => h x (List.mem_cons_of_mem _ hx))
theorem dueFold_lst (ttl : Int) (h0 : 0 ≤ ttl) (h1 : ttl ≤ 50) {ts : List Int} (hne : ts ≠ []) (h : ∀ t ∈ ts, 0 ≤ t ∧ t ≤ 149) : dueFold ttl ts = lst ts + ttl := by
  cases ts with
  | nil => exact absurd rfl hne
  | cons t ts =>
    have ht := h t List.mem_cons_self
    unfold dueFold lst
    have e1 : dueStep ttl 1099511627776 t = t + ttl := by unfold dueStep; rw [if_pos (by omega)]; omega
    have e2 : min 1099511627776 t = t := by omega
    simp only [List.foldl_cons, e1, e2]
    exact dueFold_from ttl h0 h1 ts t (fun x hx => h x (List.mem_cons_of_mem _ hx))

theorem foldl_min_le : ∀ (ts : List Int) (a : Int), ts.foldl min a ≤ a ∧ (∀ t ∈ ts, ts.foldl min a ≤ t) ∧ (ts.foldl min a = a ∨ ts.foldl min a ∈ ts)
  | [], a => ⟨Int.le_refl _, by simp, .inl rfl⟩
  | t :: ts, a => by
    obtain ⟨h1, h2, h3⟩ := foldl_min_le ts (min a t)
    simp only [List.foldl_cons]
    refine ⟨by omega, ?_, ?_⟩
    · intro x hx
      rcases List.mem_cons.1 hx with rfl | hx
      · omega
      · exact h2 x hx
    · rcases h3 with h3 | h3
      · by_cases hat : a ≤ t
        · left; omega
        · right; rw [h3]; simp; left; omega
      · right; exact List.mem_cons_of_mem _ h3
theorem lst_bd {ts : List Int} (h : ∀ t ∈ ts, 0 ≤ t ∧ t ≤ 149) : 0 ≤ lst ts ∧ lst ts ≤ 1099511627776 := by
  obtain ⟨h1, _, h3⟩ := foldl_min_le ts 1099511627776
  refine ⟨?_, h1⟩
  unfold lst
  rcases h3 with h3 | h3
  · omega
  · exact (h _ h3).1

/-- How many live at now. -/
def lft (now ttl : Int) (ts : List Int) : Nat := (ts.filter fun t => decide (now < t + ttl)).length
theorem dueB_not (now ttl t : Int) : dueB now ttl t = !decide (now < t + ttl) ∨ t > now := by
  by_cases h : t ≤ now
  · left
    unfold dueB
    by_cases h2 : ttl ≤ now - t
    · simp [h, h2]; omega
    · simp [h, h2]; omega
  · right; omega
theorem dueB_eq {now ttl : Int} (h0 : 1 ≤ ttl) (t : Int) : dueB now ttl t = !decide (now < t + ttl) := by
  rcases dueB_not now ttl t with h | h
  · exact h
  · unfold dueB
    have h1 : ¬ t ≤ now := by omega
    have h2 : now < t + ttl := by omega
    simp [h1, h2]
theorem filter_both {α : Type} (p : α → Bool) : ∀ l : List α, (l.filter p).length + (l.filter fun t => !p t).length = l.length
  | [] => rfl
  | t :: l => by
    have ih := filter_both p l
    simp only [List.filter_cons]
    cases p t <;> simp <;> omega
theorem gone_len (f : Nat → Nat) {now ttl : Int} (h0 : 1 ≤ ttl) (ts : List Int) : (goneV now ttl (vsL f ts)).length = ts.length - lft now ttl ts ∧ (restV now ttl (vsL f ts)).length = lft now ttl ts ∧ lft now ttl ts ≤ ts.length := by
  have hz : ¬ ttl = 0 := by omega
  have e1 : ∀ (p : Int → Bool) (i : Nat) (l : List Int), ((vsFrom f i l).filter fun v => p v.t).length = (l.filter p).length := by
    intro p i l
    induction l generalizing i with
    | nil => rfl
    | cons t l ih =>
      simp only [vsFrom, List.filter_cons]
      have : (kvI f i t).t = t := rfl
      rw [this]
      cases p t <;> simp [ih]
  have e2 : (goneV now ttl (vsL f ts)).length = (ts.filter fun t => dueB now ttl t).length := by rw [goneV, if_neg hz]; exact e1 _ 0 ts
  have e3 : (restV now ttl (vsL f ts)).length = (ts.filter fun t => !dueB now ttl t).length := by rw [restV, if_neg hz]; exact e1 (fun t => !dueB now ttl t) 0 ts
  have e4 : (ts.filter fun t => !dueB now ttl t) = ts.filter fun t => decide (now < t + ttl) := by
    apply List.filter_congr; intro t _; rw [dueB_eq h0]; simp
  have e5 := filter_both (fun t => dueB now ttl t) ts
  rw [e4] at e3 e5
  unfold lft
  omega
theorem gone_rest (_f : Nat → Nat) {now ttl : Int} (vs : List KV) (h0 : 1 ≤ ttl) : goneV now ttl (restV now ttl vs) = [] := by
  have hz : ¬ ttl = 0 := by omega
  rw [goneV, if_neg hz, restV, if_neg hz, List.filter_filter, List.filter_eq_nil_iff]
  intro v _
  cases dueB now ttl v.t <;> simp
/-- Something is gone just if the least time is over. -/
theorem gone_some {now ttl : Int} (h0 : 1 ≤ ttl) (hn : now ≤ 199) {ts : List Int} : decide (lst ts + ttl ≤ now) = decide (0 < ts.length - lft now ttl ts) := by
  have hmin := foldl_min_le ts 1099511627776
  have hl : lft now ttl ts ≤ ts.length := List.length_filter_le _ _
  by_cases h : lst ts + ttl ≤ now
  · have hm : lst ts ∈ ts := by
      rcases hmin.2.2 with h2 | h2
      · unfold lst at h; omega
      · exact h2
    have : lft now ttl ts < ts.length := by
      unfold lft
      apply List.length_filter_lt_length_iff_exists.2
      exact ⟨lst ts, hm, by simp; omega⟩
    simp [h]; omega
  · have : lft now ttl ts = ts.length := by
      unfold lft
      rw [List.length_filter_eq_length_iff]
      intro t ht
      have := hmin.2.1 t ht
      unfold lst at h
      simp; omega
    simp [h]; omega
end Go.Proofs.Ytaoamogmeefojaa
