/- NamesChain: its texts' answers, joined to the walk. -/
import Derived.Test.YtkfillfkbhbbjaaGreatDoorChD
import Derived.Test.YtkfillfkbhbbjaaGreatDoorChC
set_option maxRecDepth 100000
set_option maxHeartbeats 4000000
set_option linter.unusedSimpArgs false
set_option linter.unusedVariables false
namespace Go.Proofs.YtkfillfkbhbbjaaGreatDoor
open Go.RowKit
theorem ch_all {n : Nat} (h1 : 1 ≤ n) (h2 : n ≤ 20) : chAll n = true := by
 by_cases h1 : n = 1
 ·subst h1; exact ch_1
 by_cases h2 : n = 2
 ·subst h2; exact ch_2
 by_cases h3 : n = 3
 ·subst h3; exact ch_3
 by_cases h4 : n = 4
 ·subst h4; exact ch_4
 by_cases h5 : n = 5
 ·subst h5; exact ch_5
 by_cases h6 : n = 6
 ·subst h6; exact ch_6
 by_cases h7 : n = 7
 ·subst h7; exact ch_7
 by_cases h8 : n = 8
 ·subst h8; exact ch_8
 by_cases h9 : n = 9
 ·subst h9; exact ch_9
 by_cases h10 : n = 10
 ·subst h10; exact ch_10
 by_cases h11 : n = 11
 ·subst h11; exact ch_11
 by_cases h12 : n = 12
 ·subst h12; exact ch_12
 by_cases h13 : n = 13
 ·subst h13; exact ch_13
 by_cases h14 : n = 14
 ·subst h14; exact ch_14
 by_cases h15 : n = 15
 ·subst h15; exact ch_15
 by_cases h16 : n = 16
 ·subst h16; exact ch_16
 by_cases h17 : n = 17
 ·subst h17; exact ch_17
 by_cases h18 : n = 18
 ·subst h18; exact ch_18
 by_cases h19 : n = 19
 ·subst h19; exact ch_19
 by_cases h20 : n = 20
 ·subst h20; exact ch_20
 omega
theorem chR_of {n : Nat} {a o : Bool} (h : chOk n a o = true) : ∃ g t, parseF (textS n a o n) = some g ∧ nCheck 60 g = some t ∧ ChR n a o t := by
 unfold chOk at h
 cases he : evalF (textS n a o n) with
 | none => rw [he] at h; cases h
 | some y =>
  rw [he] at h
  have he2 := he
  rw [evalF_eq, Option.bind_eq_some_iff] at he2
  obtain ⟨g, hg, hc⟩ := he2
  refine ⟨g, y, hg, hc, ?_⟩
  unfold ChR
  by_cases hb : (a && o) = true
  ·rw [if_pos hb]
   simp only [hb, if_true, beq_iff_eq] at h
   exact h
  ·rw [if_neg hb]
   simp only [hb, if_false, Bool.and_eq_true, beq_iff_eq, List.all_eq_true, Nat.ble_eq, Bool.false_eq_true] at h
   obtain ⟨⟨⟨⟨h1, h2⟩, h3⟩, h4⟩, h5⟩ := h
   exact ⟨h1, h2, h3, h4, h5⟩
theorem ch_one {n : Nat} (h1 : 1 ≤ n) (h2 : n ≤ 20) (a o : Bool) : chOk n a o = true := by
 have h := ch_all h1 h2
 unfold chAll at h
 simp only [Bool.and_eq_true] at h
 obtain ⟨⟨⟨k1, k2⟩, k3⟩, k4⟩ := h
 cases a <;> cases o
 ·exact k4
 ·exact k3
 ·exact k2
 ·exact k1
theorem law_chain {z : Int} (h1 : -9223372036854775808 ≤ z) (h2 : z ≤ 9223372036854775807) (a o : Bool) {w : World} (hg : Gl w) : Calls Tryz.prog 5 #[.int .i64 z, .bool a, .bool o] w fun r w' => r = .returned (.bool true) ∧ Keeps [] w w' := by
 cases a <;> cases o
 ·exact chain_ff h1 h2 (fun n k1 k2 => chR_of (ch_one k1 k2 _ _)) hg
 ·exact chain_ft h1 h2 (fun n k1 k2 => chR_of (ch_one k1 k2 _ _)) hg
 ·exact chain_tf h1 h2 (fun n k1 k2 => chR_of (ch_one k1 k2 _ _)) hg
 ·exact chain_tt h1 h2 (fun n k1 k2 => chR_of (ch_one k1 k2 _ _)) hg
end Go.Proofs.YtkfillfkbhbbjaaGreatDoor
