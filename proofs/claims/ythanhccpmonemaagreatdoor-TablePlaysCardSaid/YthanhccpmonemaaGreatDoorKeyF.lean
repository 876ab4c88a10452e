/- key and Letters, walked: a function of the bytes. -/
import Derived.Test.YthanhccpmonemaaGreatDoorDropR
namespace Go.Proofs.YthanhccpmonemaaGreatDoor
open Go.RowKit

def ltr (z : Int) : ByteArray := ByteArray.extract ⟨#[97, 97, 98, 98, 99, 49, 10, 65]⟩ (z.tmod 8).toNat ((z.tmod 8).toNat + 1)
/-- The text of the first k bytes. -/
def letsTo (zs : List Int) (k : Nat) : ByteArray := (zs.take k).foldl (fun s z => s ++ ltr z) ⟨#[]⟩
def lets (zs : List Int) : ByteArray := letsTo zs 2
theorem letsTo_succ {zs : List Int} {k : Nat} (h : k < zs.length) : letsTo zs (k + 1) = letsTo zs k ++ ltr zs[k] := by
  unfold letsTo
  rw [List.take_succ_eq_append_getElem h, List.foldl_append]
  rfl
theorem lets_end {zs : List Int} {k : Nat} (h : k ≤ zs.length) (h2 : k = 2 ∨ zs.length ≤ k ∧ k ≤ 2) : letsTo zs k = lets zs := by
  rcases h2 with rfl | ⟨h2, h3⟩
  · rfl
  · unfold lets letsTo
    rw [List.take_of_length_le h2, List.take_of_length_le (by omega)]

set_option maxHeartbeats 1000000 in
theorem letters_fn (w : World) (g o n cap : Nat) (zs : List Int) (hzn : zs.length = n) (_hn : n ≤ 9223372036854775807)
    (hb : ∀ j (h : j < zs.length), 0 ≤ zs[j] ∧ zs[j] ≤ 255 ∧ w.cell? ⟨g, o + j, none⟩ = some (.int .u8 zs[j])) :
    Calls Tryz.prog 32 #[.slice (some ⟨g, o, none⟩) n cap, .int .i64 2] w fun e w' => e = .returned (.string (lets zs)) ∧ ∃ k, w' = w.drewN k := by
  have HB := Lib.hid hb; clear hb
  go_enter Tryz.func32, Tryz.ntmps32
  go_wp2_with fail
  go_loopw [5, 6] (fun sv i wr => ∃ k : Nat, k ≤ 2 ∧ i = .int .i64 k ∧ (∃ s, sv = .string s ∧ s.size ≤ k ∧ Hid (k ≤ zs.length ∧ s = letsTo zs k)) ∧ ∃ q, wr = w.drewN q) (fun _ i _ => 2 - (intOf i).toNat)
  case atStart => exact ⟨0, by omega, rfl, ⟨_, rfl, by decide, Lib.hid ⟨Nat.zero_le _, rfl⟩⟩, 0, rfl⟩
  case round =>
    obtain ⟨k, hk, rfl, ⟨s, rfl, hss, hst⟩, q, rfl⟩ := hrel
    by_cases h1 : k < n ∧ k < 2
    · obtain ⟨h1, h2⟩ := h1
      have hkz : k < zs.length := by omega
      have hb := HB.out k hkz
      generalize hzz : zs[k] = z at *
      have HZZ := Lib.hid hzz; clear hzz
      obtain ⟨z0, z1, hz⟩ := hb
      have hr : z.tmod 8 = 0 ∨ z.tmod 8 = 1 ∨ z.tmod 8 = 2 ∨ z.tmod 8 = 3 ∨ z.tmod 8 = 4 ∨ z.tmod 8 = 5 ∨ z.tmod 8 = 6 ∨ z.tmod 8 = 7 := by
        rw [Int.tmod_eq_emod_of_nonneg z0]; omega
      have w1 : IntKind.u8.wrap 1 = 1 := by decide
      have w2 : IntKind.u8.wrap 2 = 2 := by decide
      have w3 : IntKind.u8.wrap 3 = 3 := by decide
      have w4 : IntKind.u8.wrap 4 = 4 := by decide
      have w5 : IntKind.u8.wrap 5 = 5 := by decide
      have w6 : IntKind.u8.wrap 6 = 6 := by decide
      have w7 : IntKind.u8.wrap 7 = 7 := by decide
      have w8 : IntKind.u8.wrap 8 = 8 := by decide
      have a0 := fun W => run_string_add (P := Tryz.prog) W s (ByteArray.extract ⟨#[97, 97, 98, 98, 99, 49, 10, 65]⟩ 0 1) (by omega) (by decide)
      have a1 := fun W => run_string_add (P := Tryz.prog) W s (ByteArray.extract ⟨#[97, 97, 98, 98, 99, 49, 10, 65]⟩ 1 2) (by omega) (by decide)
      have a2 := fun W => run_string_add (P := Tryz.prog) W s (ByteArray.extract ⟨#[97, 97, 98, 98, 99, 49, 10, 65]⟩ 2 3) (by omega) (by decide)
      have a3 := fun W => run_string_add (P := Tryz.prog) W s (ByteArray.extract ⟨#[97, 97, 98, 98, 99, 49, 10, 65]⟩ 3 4) (by omega) (by decide)
      have a4 := fun W => run_string_add (P := Tryz.prog) W s (ByteArray.extract ⟨#[97, 97, 98, 98, 99, 49, 10, 65]⟩ 4 5) (by omega) (by decide)
      have a5 := fun W => run_string_add (P := Tryz.prog) W s (ByteArray.extract ⟨#[97, 97, 98, 98, 99, 49, 10, 65]⟩ 5 6) (by omega) (by decide)
      have a6 := fun W => run_string_add (P := Tryz.prog) W s (ByteArray.extract ⟨#[97, 97, 98, 98, 99, 49, 10, 65]⟩ 6 7) (by omega) (by decide)
      have a7 := fun W => run_string_add (P := Tryz.prog) W s (ByteArray.extract ⟨#[97, 97, 98, 98, 99, 49, 10, 65]⟩ 7 8) (by omega) (by decide)
      rcases hr with hr | hr | hr | hr | hr | hr | hr | hr
      all_goals
        go_wp2_with fail
        go_quiet (fail)
        go_wp2_with fail
        go_roundw
        case rel => exact ⟨k + 1, by omega, by go_num, ⟨_, rfl, by simp [ByteArray.size_append]; omega, Lib.hid ⟨by omega, by rw [letsTo_succ hkz, HZZ.out, ← hst.out.2]; simp [ltr, hr]⟩⟩, _, rfl⟩
        case measure => simp [intOf]; omega
    · by_cases h2 : k < n
      · have h3 : ¬ k < 2 := fun h => h1 ⟨h2, h⟩
        clear h1
        go_wp2_with fail
        go_ret
        refine ⟨?_, _, rfl⟩
        show Ending.returned (.string s) = _
        rw [hst.out.2, lets_end hst.out.1 (by omega)]
      · clear h1
        go_wp2_with fail
        go_ret
        refine ⟨?_, _, rfl⟩
        show Ending.returned (.string s) = _
        rw [hst.out.2, lets_end hst.out.1 (by omega)]


theorem ltr_size (z : Int) : (ltr z).size ≤ 1 := by
  unfold ltr
  simp [ByteArray.size_extract]
  omega
theorem letsTo_size (zs : List Int) : ∀ k, (letsTo zs k).size ≤ k
  | 0 => by show (⟨#[]⟩ : ByteArray).size ≤ 0; decide
  | k + 1 => by
    by_cases h : k < zs.length
    · rw [letsTo_succ h, ByteArray.size_append]
      have h1 := letsTo_size zs k
      have h2 := ltr_size zs[k]
      omega
    · have e : letsTo zs (k + 1) = letsTo zs k := by
        unfold letsTo
        rw [List.take_of_length_le (by omega), List.take_of_length_le (by omega)]
      rw [e]
      have h1 := letsTo_size zs k
      omega

/-- A slice of bytes, which they are. -/
def BytesZ (w : World) (v : Value) (zs : List Int) : Prop :=
  zs.length ≤ 9223372036854775807 ∧ ((∃ a cap, v = .slice a 0 cap ∧ zs = []) ∨ ∃ g o cap, v = .slice (some ⟨g, o, none⟩) zs.length cap ∧ ∀ j (h : j < zs.length), 0 ≤ zs[j] ∧ zs[j] ≤ 255 ∧ w.cell? ⟨g, o + j, none⟩ = some (.int .u8 zs[j]))

set_option maxHeartbeats 400000 in
theorem letters_nilz (w : World) (a : Option Addr) (cap : Nat) : Calls Tryz.prog 32 #[.slice a 0 cap, .int .i64 2] w fun e w' => e = .returned (.string (lets [])) ∧ ∃ k, w' = w.drewN k := by
  go_enter Tryz.func32, Tryz.ntmps32
  go_wp2_with fail
  refine wp_loop_rounds 1 ?_
  rw [rounds_succ]
  go_wp2_with fail
  go_ret
  exact ⟨rfl, 0, rfl⟩

theorem key_fn {w : World} {v : Value} {zs : List Int} (h : BytesZ w v zs) : Calls Tryz.prog 16 #[v] w fun e w' => e = .returned (.string (lets zs)) ∧ ∃ k, w' = w.drewN k := by
  have hl : Calls Tryz.prog 32 #[v, .int .i64 2] w fun e w' => e = .returned (.string (lets zs)) ∧ ∃ k, w' = w.drewN k := by
    obtain ⟨hn, ⟨a, cap, rfl, rfl⟩ | ⟨g, o, cap, rfl, hb⟩⟩ := h
    · exact letters_nilz w a cap
    · exact letters_fn w g o zs.length cap zs rfl hn hb
  have HL := Lib.hid hl; clear hl h
  go_enter Tryz.func16, Tryz.ntmps16
  go_wp2_with fail
  refine HL.out.mono ?_
  rintro e w' ⟨rfl, k, rfl⟩
  go_wp2_with fail
  go_ret
  exact ⟨rfl, k, rfl⟩
end Go.Proofs.YthanhccpmonemaaGreatDoor
