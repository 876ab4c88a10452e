/- key and Letters, walked: some text, made of what the bytes are. -/
import Derived.Test.YthanhccpmonemaaGreatDoorStrs
namespace Go.Proofs.YthanhccpmonemaaGreatDoor
open Go.RowKit

/-- A slice of bytes: each of its cells holds one. -/
def BytesS (w : World) (v : Value) : Prop :=
  (∃ a cap, v = .slice a 0 cap) ∨ ∃ g o n cap, v = .slice (some ⟨g, o, none⟩) n cap ∧ n ≤ maxLen ∧ ∀ j, j < n → ∃ z : Int, 0 ≤ z ∧ z ≤ 255 ∧ w.cell? ⟨g, o + j, none⟩ = some (.int .u8 z)

set_option maxHeartbeats 1000000 in
theorem letters_some (w : World) (g o n cap : Nat) (_hn : n ≤ 9223372036854775807)
    (hb : ∀ j, j < n → ∃ z : Int, 0 ≤ z ∧ z ≤ 255 ∧ w.cell? ⟨g, o + j, none⟩ = some (.int .u8 z)) :
    Calls Tryz.prog 32 #[.slice (some ⟨g, o, none⟩) n cap, .int .i64 2] w fun e w' => ∃ s, e = .returned (.string s) ∧ ∃ k, w' = w.drewN k := by
  have HB := Lib.hid hb; clear hb
  go_enter Tryz.func32, Tryz.ntmps32
  go_wp2_with fail
  go_loopw [5, 6] (fun sv i wr => ∃ k : Nat, k ≤ 2 ∧ i = .int .i64 k ∧ (∃ s, sv = .string s ∧ s.size ≤ k) ∧ ∃ q, wr = w.drewN q) (fun _ i _ => 2 - (intOf i).toNat)
  case atStart => exact ⟨0, by omega, rfl, ⟨_, rfl, by decide⟩, 0, rfl⟩
  case round =>
    obtain ⟨k, hk, rfl, ⟨s, rfl, hss⟩, q, rfl⟩ := hrel
    by_cases h1 : k < n ∧ k < 2
    · obtain ⟨h1, h2⟩ := h1
      obtain ⟨z, z0, z1, hz⟩ := HB.out k h1
      have hr : z.tmod 8 = 0 ∨ z.tmod 8 = 1 ∨ z.tmod 8 = 2 ∨ z.tmod 8 = 3 ∨ z.tmod 8 = 4 ∨ z.tmod 8 = 5 ∨ z.tmod 8 = 6 ∨ z.tmod 8 = 7 := by
        rw [Int.tmod_eq_emod_of_nonneg z0]; omega
      have w1 : IntKind.u8.wrap 1 = 1 := by decide
      have w2 : IntKind.u8.wrap 2 = 2 := by decide
      have w3 : IntKind.u8.wrap 3 = 3 := by decide
      have w4 : IntKind.u8.wrap 4 = 4 := by decide
      have w5 : IntKind.u8.wrap 5 = 5 := by decide
      have w6 : IntKind.u8.wrap 6 = 6 := by decide
      have w7 : IntKind.u8.wrap 7 = 7 := by decide
      have w8 : IntKind.u8.wrap 8 = 8 := by decide
      have a0 := fun W => run_string_add (P := Tryz.prog) W s (ByteArray.extract ⟨#[97, 97, 98, 98, 99, 49, 10, 65]⟩ 0 1) (by omega) (by decide)
      have a1 := fun W => run_string_add (P := Tryz.prog) W s (ByteArray.extract ⟨#[97, 97, 98, 98, 99, 49, 10, 65]⟩ 1 2) (by omega) (by decide)
      have a2 := fun W => run_string_add (P := Tryz.prog) W s (ByteArray.extract ⟨#[97, 97, 98, 98, 99, 49, 10, 65]⟩ 2 3) (by omega) (by decide)
      have a3 := fun W => run_string_add (P := Tryz.prog) W s (ByteArray.extract ⟨#[97, 97, 98, 98, 99, 49, 10, 65]⟩ 3 4) (by omega) (by decide)
      have a4 := fun W => run_string_add (P := Tryz.prog) W s (ByteArray.extract ⟨#[97, 97, 98, 98, 99, 49, 10, 65]⟩ 4 5) (by omega) (by decide)
      have a5 := fun W => run_string_add (P := Tryz.prog) W s (ByteArray.extract ⟨#[97, 97, 98, 98, 99, 49, 10, 65]⟩ 5 6) (by omega) (by decide)
      have a6 := fun W => run_string_add (P := Tryz.prog) W s (ByteArray.extract ⟨#[97, 97, 98, 98, 99, 49, 10, 65]⟩ 6 7) (by omega) (by decide)
      have a7 := fun W => run_string_add (P := Tryz.prog) W s (ByteArray.extract ⟨#[97, 97, 98, 98, 99, 49, 10, 65]⟩ 7 8) (by omega) (by decide)
      rcases hr with hr | hr | hr | hr | hr | hr | hr | hr
      all_goals
        go_wp2_with fail
        go_quiet (fail)
        go_wp2_with fail
        go_roundw
        case rel => exact ⟨k + 1, by omega, by go_num, ⟨_, rfl, by simp [ByteArray.size_append]; omega⟩, _, rfl⟩
        case measure => simp [intOf]; omega
    · by_cases h2 : k < n
      · have h3 : ¬ k < 2 := fun h => h1 ⟨h2, h⟩
        clear h1
        go_wp2_with fail
        go_ret
        exact ⟨_, rfl, _, rfl⟩
      · clear h1
        go_wp2_with fail
        go_ret
        exact ⟨_, rfl, _, rfl⟩

set_option maxHeartbeats 400000 in
theorem letters_nil (w : World) (a : Option Addr) (cap : Nat) : Calls Tryz.prog 32 #[.slice a 0 cap, .int .i64 2] w fun e w' => ∃ s, e = .returned (.string s) ∧ ∃ k, w' = w.drewN k := by
  go_enter Tryz.func32, Tryz.ntmps32
  go_wp2_with fail
  refine wp_loop_rounds 1 ?_
  rw [rounds_succ]
  go_wp2_with fail
  go_ret
  exact ⟨_, rfl, 0, rfl⟩

theorem letters_any {w : World} {v : Value} (h : BytesS w v) : Calls Tryz.prog 32 #[v, .int .i64 2] w fun e w' => ∃ s, e = .returned (.string s) ∧ ∃ k, w' = w.drewN k := by
  rcases h with ⟨a, cap, rfl⟩ | ⟨g, o, n, cap, rfl, hn, hb⟩
  · exact letters_nil w a cap
  · exact letters_some w g o n cap (by simpa [maxLen] using hn) hb

set_option maxHeartbeats 400000 in
theorem key_any {w : World} {v : Value} (h : BytesS w v) : Calls Tryz.prog 16 #[v] w fun e w' => ∃ s, e = .returned (.string s) ∧ ∃ k, w' = w.drewN k := by
  have H := Lib.hid h; clear h
  go_enter Tryz.func16, Tryz.ntmps16
  go_wp2_with fail
  refine (letters_any H.out).mono ?_
  rintro e w' ⟨s, rfl, k, rfl⟩
  go_wp2_with fail
  go_ret
  exact ⟨s, rfl, k, rfl⟩
end Go.Proofs.YthanhccpmonemaaGreatDoor
