/- strs, walked: two slices of strings, held against each other. -/
import Derived.Test.YthanhccpmonemaaGreatDoorKeys
import Derived.Deep.QuietTactic
import Derived.BigQuiet
namespace Go.Proofs.YthanhccpmonemaaGreatDoor
open Go.RowKit

/-- A slice of strings that holds ss. -/
def StrS (w : World) (v : Value) (ss : List ByteArray) : Prop :=
  ss.length ≤ 1000000 ∧ ((v = .slice none 0 0 ∧ ss = []) ∨ ∃ g o cap, v = .slice (some ⟨g, o, none⟩) ss.length cap ∧ ∀ j (h : j < ss.length), w.cell? ⟨g, o + j, none⟩ = some (.string ss[j]))

theorem StrS.of_row {w : World} {base : Nat} {v : Value} {ss : List ByteArray} (h : w.ownsRow base 9 1 v ss.length (ss.map Value.string)) (hl : ss.length ≤ 1000000) : StrS w v ss := by
  refine ⟨hl, ?_⟩
  rcases h.2 with ⟨h1, h2⟩ | ⟨g, cap, cur, rfl, _, h3, _, _, _, h4⟩
  · exact .inl ⟨h1, List.eq_nil_of_length_eq_zero h2⟩
  · refine .inr ⟨g, 0, cap, rfl, fun j hj => ?_⟩
    rw [Nat.zero_add, cell_of_heap h3 j]
    have h5 : (cur.toList.take (ss.length * 1))[j]? = (ss.map Value.string)[j]? := by rw [h4]
    rw [List.getElem?_take, if_pos (by omega)] at h5
    simpa [hj] using h5

/-- The decided end of strs: the first place at which they part. -/
def strsEq (a b : List ByteArray) : Bool := decide (a = b)

theorem strsEq_true {a b : List ByteArray} (h : a = b) : strsEq a b = true := by simp [strsEq, h]
theorem strsEq_false {a b : List ByteArray} (h : a ≠ b) : strsEq a b = false := by simp [strsEq, h]
theorem bytes_toList_inj {p q : ByteArray} (h : p.toList = q.toList) : p = q := by
  have hh : (p == q) = true := by
    rw [MapKept.bytes_beq]
    have e1 : ∀ x : ByteArray, x.toList = x.data.toList := fun x => ByteArray.toList_eq x
    rw [e1, e1] at h
    cases p; cases q
    simp at h
    simp [h]
  exact (MapKept.bytes_beq p q).1 hh

set_option maxHeartbeats 1000000 in
theorem strs_same_len (w : World) (g1 o1 c1 g2 o2 c2 : Nat) (a b : List ByteArray) (hl : a.length = b.length) (hb : a.length ≤ 1000000)
    (ha : ∀ j (h : j < a.length), w.cell? ⟨g1, o1 + j, none⟩ = some (.string a[j])) (hbb : ∀ j (h : j < b.length), w.cell? ⟨g2, o2 + j, none⟩ = some (.string b[j])) :
    Calls Tryz.prog 8 #[.slice (some ⟨g1, o1, none⟩) a.length c1, .slice (some ⟨g2, o2, none⟩) a.length c2] w fun e w' => e = .returned (.bool (strsEq a b)) ∧ ∃ n, w' = w.drewN n := by
  have HA := Lib.hid ha; have HB := Lib.hid hbb; have HL := Lib.hid hl; clear ha hbb hl
  go_enter Tryz.func8, Tryz.ntmps8
  go_wp2_with fail
  go_loopw [5] (fun i wr => ∃ k : Nat, k ≤ a.length ∧ i = .int .i64 k ∧ a.take k = b.take k ∧ ∃ n, wr = w.drewN n) (fun i _ => a.length - (intOf i).toNat)
  case atStart => exact ⟨0, by omega, rfl, rfl, 0, rfl⟩
  case round =>
    obtain ⟨k, hk, rfl, htk, n, rfl⟩ := hrel
    have T := Lib.hid htk; clear htk
    by_cases hlt : k < a.length
    · have x1 := HA.out k hlt
      have x2 := HB.out k (by rw [← HL.out]; exact hlt)
      generalize hp : a[k] = p at x1
      generalize hq : b[k]'(by rw [← HL.out]; exact hlt) = q at x2
      have HP := Lib.hid hp; have HQ := Lib.hid hq; clear hp hq
      go_wp2_with fail
      go_quiet (fail)
      go_wp2_with fail
      · rename_i hne
        go_ret
        refine ⟨?_, n + nq, by simp⟩
        have : a ≠ b := by
          intro e
          subst e
          rw [← HP.out, ← HQ.out] at hne
          simp at hne
        rw [strsEq_false this]; rfl
      · rename_i heq
        refine ⟨⟨k + 1, by omega, by go_num, ?_, _, rfl⟩, by simp [intOf]; omega⟩
        have e : p = q := bytes_toList_inj (by simpa using heq)
        have hlb : k < b.length := by rw [← HL.out]; exact hlt
        rw [List.take_succ_eq_append_getElem hlt, List.take_succ_eq_append_getElem hlb, T.out, HP.out, HQ.out, e]
    · go_wp2_with fail
      go_ret
      refine ⟨?_, _, rfl⟩
      have : a = b := by
        have h1 := T.out
        rw [List.take_of_length_le (by omega), List.take_of_length_le (by have := HL.out; omega)] at h1
        exact h1
      rw [strsEq_true this]; rfl

set_option maxHeartbeats 400000 in
theorem strs_other_len (w : World) (x1 x2 : Option Addr) (n1 n2 c1 c2 : Nat) (h : n1 ≠ n2) (_h1 : n1 ≤ 1000000) (_h2 : n2 ≤ 1000000) :
    Calls Tryz.prog 8 #[.slice x1 n1 c1, .slice x2 n2 c2] w fun e w' => e = .returned (.bool false) ∧ w' = w := by
  have hb : ((n1 : Int) != (n2 : Int)) = true := by rw [bne_iff_ne]; omega
  go_enter Tryz.func8, Tryz.ntmps8
  go_wp2_with fail
  go_ret
  exact ⟨rfl, rfl⟩

set_option maxHeartbeats 400000 in
theorem strs_empty (w : World) (x1 x2 : Option Addr) (c1 c2 : Nat) :
    Calls Tryz.prog 8 #[.slice x1 0 c1, .slice x2 0 c2] w fun e w' => e = .returned (.bool true) ∧ w' = w := by
  go_enter Tryz.func8, Tryz.ntmps8
  go_wp2_with fail
  refine wp_loop_rounds 1 ?_
  rw [rounds_succ]
  go_wp2_with fail
  go_ret
  exact ⟨rfl, rfl⟩

theorem strs_any {w : World} {v1 v2 : Value} {a b : List ByteArray} (ha : StrS w v1 a) (hb : StrS w v2 b) :
    Calls Tryz.prog 8 #[v1, v2] w fun e w' => e = .returned (.bool (strsEq a b)) ∧ ∃ n, w' = w.drewN n := by
  obtain ⟨la, ha⟩ := ha
  obtain ⟨lb, hb⟩ := hb
  have sa : ∃ x c, v1 = .slice x a.length c := by
    rcases ha with ⟨rfl, rfl⟩ | ⟨g, o, c, rfl, _⟩ <;> exact ⟨_, _, rfl⟩
  have sb : ∃ x c, v2 = .slice x b.length c := by
    rcases hb with ⟨rfl, rfl⟩ | ⟨g, o, c, rfl, _⟩ <;> exact ⟨_, _, rfl⟩
  by_cases hl : a.length = b.length
  · by_cases h0 : a.length = 0
    · obtain ⟨x1, c1, rfl⟩ := sa
      obtain ⟨x2, c2, rfl⟩ := sb
      have e1 := List.eq_nil_of_length_eq_zero h0
      have e2 := List.eq_nil_of_length_eq_zero (hl ▸ h0)
      subst e1; subst e2
      refine (strs_empty w x1 x2 c1 c2).mono ?_
      rintro e w' ⟨rfl, rfl⟩
      exact ⟨rfl, 0, rfl⟩
    · rcases ha with ⟨_, rfl⟩ | ⟨g1, o1, c1, rfl, ha⟩
      · exact absurd rfl h0
      · rcases hb with ⟨_, rfl⟩ | ⟨g2, o2, c2, rfl, hb⟩
        · exact absurd hl h0
        · rw [← hl]
          exact strs_same_len w g1 o1 c1 g2 o2 c2 a b hl la ha hb
  · obtain ⟨x1, c1, rfl⟩ := sa
    obtain ⟨x2, c2, rfl⟩ := sb
    refine (strs_other_len w x1 x2 _ _ c1 c2 hl la lb).mono ?_
    rintro e w' ⟨rfl, rfl⟩
    exact ⟨by rw [strsEq_false (fun e => hl (by rw [e]))], 0, rfl⟩
end Go.Proofs.YthanhccpmonemaaGreatDoor
