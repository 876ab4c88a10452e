/- Texts' and numbers' bytes: the writer's, the document's; walked. -/
import Derived.Test.YthanhccpmonemaaGreatDoorFlo
namespace Go.Proofs.YthanhccpmonemaaGreatDoor
open Go.RowKit

/-- A text's bytes, and a text's bytes behind how many. -/
def strB (s : ByteArray) : List UInt8 := s.data.toList
theorem strB_len (s : ByteArray) : (strB s).length = s.size := by simp [strB]
theorem strB_row (s : ByteArray) : bRow (strB s) = Lib.strCells s := rfl
def textB (s : ByteArray) : List UInt8 := numB s.size ++ strB s

/-- Bytes of the call's own. -/
def Bys (w : World) (base : Nat) (v : Value) (bs : List UInt8) : Prop := w.ownsRow base 5 1 v bs.length (bRow bs)

def RNumAt (w : World) (n : Nat) (g : Nat) (v out : Value) (wr : World) : Prop :=
  ∃ (m : Nat) (pre : List UInt8), m = g ∧ m ≤ n ∧ v = .int .u64 m ∧ pre ++ numB m = numB n ∧ Bys wr w.heap.size out pre ∧ Keeps [] w wr

set_option maxRecDepth 100000 in
set_option maxHeartbeats 1000000 in
theorem rnum_any (w : World) (n : Nat) (hn : n ≤ 18446744073709551615) :
    Calls Tryz.prog 37 #[.int .u64 n] w fun e w' => ∃ v, e = .returned v ∧ Bys w' w.heap.size v (numB n) ∧ Keeps [] w w' := by
  obtain ⟨i5, hi, hz0, hz1, hz2⟩ := info_parts info5
  have N5 := Lib.hid hi; have N5z := Lib.hid hz0; have N5s := Lib.hid hz1; have N5b := Lib.hid hz2; clear hi hz0 hz1 hz2
  have hl64 := numB_len64 hn
  go_enter Tryz.func37, Tryz.ntmps37
  go_wp2_with fail
  go_loopg [0, 3] n (fun g v out wr => RNumAt w n g v out wr)
  case atStart => exact ⟨n, [], rfl, Nat.le_refl _, rfl, rfl, World.ownsRow_nil _ _ _ _, Keeps.refl _ _⟩
  case round =>
    obtain ⟨m, pre, rfl, hm, rfl, hpre, h1, hk⟩ := hrel
    have hpl : pre.length ≤ 10 := by
      have := congrArg List.length hpre
      rw [List.length_append] at this
      omega
    unfold Bys at h1
    obtain ⟨la, lc, rfl⟩ := slice_shape5 h1
    have hsz := hk.size
    have H1 := Lib.hid h1; have HK := Lib.hid hk; have HP := Lib.hid hpre; clear h1 hk hpre
    by_cases h128 : 128 ≤ m
    · have hnb := numB_great h128
      obtain ⟨z, hz⟩ : ∃ z, z = UInt8.ofNat (m % 128 + 128) := ⟨_, rfl⟩
      have hzm : ((m : Int) % 128 + 128) = (z.toNat : Int) := by rw [hz, UInt8.toNat_ofNat']; omega
      rw [← hz] at hnb
      have HNB := Lib.hid hnb; clear hz hnb
      have hzb : z.toNat < 256 := UInt8.toNat_lt z
      go_wp2_with (at_builtin; refine wpList_append_own _ rfl (.tmp 6) (.tmp 11) 31 rfl w.heap.size 5 i5 (.int .u8 0) 1 1 Tryz.underlying31 N5.out N5z.out N5s.out N5b.out rfl (by decide) _ _ _ rfl (H1.out.alloc _) ⟨wr.heap.size, 0, none⟩ 1 1 (bRow [z]) rfl rfl ?c1 (bRow_one _) ?c3 ?c4 ?c5 ?_)
      case c1 => exact rnew_one _ _ _
      case c3 => simp only [maxLen]; omega
      case c4 => omega
      case c5 => simp; omega
      intro v6 w6 hown6 hg6 _
      have hk6 := keeps_row (HK.out.trans (Keeps.alloc [] wr (.cells #[bCell z] 5)) (by simp)) (H1.out.alloc _) hg6
      have HO := Lib.hid hown6; have HK6 := Lib.hid hk6
      clear hown6 hg6 hk6
      go_wp2_with fail
      go_roundg (m / 128)
      case measure => omega
      case rel =>
        refine ⟨m / 128, pre ++ [z], rfl, by omega, by go_num, ?_, ?_, HK6.out⟩
        · rw [← HP.out, HNB.out]
          simp
        · have := HO.out
          unfold Bys
          rw [bRow_append, List.length_append]
          exact this
    · have hnb := numB_small (n := m) (by omega)
      obtain ⟨z, hz⟩ : ∃ z, z = UInt8.ofNat m := ⟨_, rfl⟩
      have hzm : (m : Int) = (z.toNat : Int) := by rw [hz, UInt8.toNat_ofNat']; omega
      rw [← hz] at hnb
      have HNB := Lib.hid hnb; clear hz hnb
      have hzb : z.toNat < 256 := UInt8.toNat_lt z
      go_wp2_with (at_builtin; refine wpList_append_own _ rfl (.tmp 15) (.tmp 18) 31 rfl w.heap.size 5 i5 (.int .u8 0) 1 1 Tryz.underlying31 N5.out N5z.out N5s.out N5b.out rfl (by decide) _ _ _ rfl (H1.out.alloc _) ⟨wr.heap.size, 0, none⟩ 1 1 (bRow [z]) rfl rfl ?c1 (bRow_one _) ?c3 ?c4 ?c5 ?_)
      case c1 => exact rnew_one _ _ _
      case c3 => simp only [maxLen]; omega
      case c4 => omega
      case c5 => simp; omega
      intro v6 w6 hown6 hg6 _
      have hk6 := keeps_row (HK.out.trans (Keeps.alloc [] wr (.cells #[bCell z] 5)) (by simp)) (H1.out.alloc _) hg6
      have HO := Lib.hid hown6; have HK6 := Lib.hid hk6
      clear hown6 hg6 hk6
      go_wp2_with fail
      go_ret
      refine ⟨_, rfl, ?_, HK6.out⟩
      have h2 := HP.out
      rw [HNB.out] at h2
      rw [← h2]
      unfold Bys
      rw [bRow_append, List.length_append]
      exact HO.out
end Go.Proofs.YthanhccpmonemaaGreatDoor
