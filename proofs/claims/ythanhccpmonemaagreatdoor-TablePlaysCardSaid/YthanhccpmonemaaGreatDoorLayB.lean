/- Texts' bytes: the writer's, the document's; a new writer; all that was laid; walked. -/
import Derived.Test.YthanhccpmonemaaGreatDoorLayA
namespace Go.Proofs.YthanhccpmonemaaGreatDoor
open Go.RowKit

set_option maxRecDepth 100000 in
set_option maxHeartbeats 1000000 in
theorem rtext_any (w : World) (s : ByteArray) (hs : s.size ≤ 1000000) :
    Calls Tryz.prog 38 #[.string s] w fun e w' => ∃ v, e = .returned v ∧ Bys w' w.heap.size v (textB s) ∧ Keeps [] w w' := by
  obtain ⟨i5, hi, hz0, hz1, hz2⟩ := info_parts info5
  have N5 := Lib.hid hi; have N5z := Lib.hid hz0; have N5s := Lib.hid hz1; have N5b := Lib.hid hz2; clear hi hz0 hz1 hz2
  have hl64 := numB_len64 (n := s.size) (by omega)
  go_enter Tryz.func38, Tryz.ntmps38
  go_wp2_with fail
  refine (rnum_any _ s.size (by omega)).mono ?_
  rintro e w1 ⟨v1, rfl, h1, hk1⟩
  have hsz := hk1.size
  have H1 := Lib.hid h1; have HK1 := Lib.hid hk1; clear h1 hk1
  go_wp2_with (at_builtin; refine Lib.wpList_append_own_string _ rfl (.tmp 6) (.tmp 7) 31 9 rfl w.heap.size 5 i5 Tryz.underlying31 Tryz.underlying9 N5.out N5z.out N5s.out N5b.out _ _ _ rfl H1.out s rfl ?c3 ?c4 ?c5 ?_)
  case c3 => simp only [maxLen]; omega
  case c4 => omega
  case c5 => omega
  intro v6 w6 hown6 hg6 _
  have hk6 := keeps_row HK1.out H1.out hg6
  have HO := Lib.hid hown6; have HK6 := Lib.hid hk6
  clear hown6 hg6 hk6
  go_wp2_with fail
  go_ret
  refine ⟨_, rfl, ?_, HK6.out⟩
  unfold Bys textB
  rw [bRow_append, List.length_append, strB_len, strB_row]
  exact HO.out

set_option maxRecDepth 100000 in
set_option maxHeartbeats 1000000 in
theorem wtext_any {w : World} {b base : Nat} {bs : List UInt8} (h : Wr w b base bs) (hb : base ≤ b) (hB : base ≤ w.heap.size) (hlen : bs.length ≤ 900000) (s : ByteArray) (hs : s.size ≤ 1000) :
    Calls Tryz.prog 35 #[.pointer (some ⟨b, 0, none⟩), .string s] w fun e w' => e = .returned (.tuple #[]) ∧ Wr w' b base (bs ++ textB s) ∧ Lays base w w' := by
  obtain ⟨i5, hi, hz0, hz1, hz2⟩ := info_parts info5
  have N5 := Lib.hid hi; have N5z := Lib.hid hz0; have N5s := Lib.hid hz1; have N5b := Lib.hid hz2; clear hi hz0 hz1 hz2
  have hl64 := numB_len64 (n := s.size) (by omega)
  have H := Lib.hid h; clear h
  go_enter Tryz.func35, Tryz.ntmps35
  go_wp2_with fail
  refine (wnum_any H.out hb hB (by omega) s.size (by omega)).mono ?_
  rintro e w1 ⟨rfl, hW, hB1⟩
  obtain ⟨lv, h0, h1⟩ := hW
  obtain ⟨la, lc, rfl⟩ := slice_shape5 h1
  have c0 := cell_of_heap h0 0
  simp at c0
  have hsz := hB1.size
  rw [List.length_append] at h0 h1
  have H0 := Lib.hid h0; have H1 := Lib.hid h1; have HB1 := Lib.hid hB1; clear h0 h1 hB1
  go_wp2_with (at_builtin; refine Lib.wpList_append_own_string _ rfl (.tmp 13) (.tmp 14) 31 9 rfl base 5 i5 Tryz.underlying31 Tryz.underlying9 N5.out N5z.out N5s.out N5b.out _ _ _ rfl H1.out s rfl ?c3 ?c4 ?c5 ?_)
  case c3 => simp only [maxLen]; omega
  case c4 => omega
  case c5 => omega
  intro v6 w6 hown6 hg6 _
  obtain ⟨h6, hW, hBw⟩ := Wr.grew (bs' := bs ++ textB s) H0.out (Keeps.refl [] _) H1.out hg6 (by unfold textB; rw [← List.append_assoc, bRow_append, strB_row]; exact hown6) (by simp [textB, strB_len]; omega) hb (by omega)
  obtain ⟨na, nc, rfl⟩ := slice_shape5 hown6
  have c6 := cell_of_heap h6 0
  have f6 := frozen_of_heap h6 0
  simp at c6
  have HW := Lib.hid hW; have HBW := Lib.hid (HB1.out.trans hBw)
  clear hown6 hg6 h6 hW hBw
  go_wp2_with fail
  go_end0
  exact ⟨rfl, HW.out, HBW.out⟩

theorem newwriter_any (w : World) : Calls Tryz.prog 26 #[] w fun e w' => e = .returned (.pointer (some ⟨w.heap.size, 0, none⟩)) ∧ Wr w' w.heap.size w.heap.size [] ∧ Keeps [] w w' := by
  go_enter Tryz.func26, Tryz.ntmps26
  go_wp2
  go_ret
  exact ⟨rfl, ⟨_, h_new _ _, World.ownsRow_nil _ _ _ _⟩, Keeps.alloc [] w _⟩

def RFloAt (w : World) (n : Nat) (g : Nat) (v out i : Value) (wr : World) : Prop :=
  ∃ (k m : Nat) (pre : List UInt8), k ≤ 8 ∧ g = 8 - k ∧ i = .int .i64 k ∧ m ≤ 18446744073709551615 ∧ v = .int .u64 m ∧ pre ++ leB (8 - k) m = leB 8 n ∧ Bys wr w.heap.size out pre ∧ Keeps [] w wr

set_option maxRecDepth 100000 in
set_option maxHeartbeats 2000000 in
theorem rfloat_any (w : World) (n : Nat) (hn : fBits n ≤ 18446744073709551615) :
    Calls Tryz.prog 45 #[.float .f64 n] w fun e w' => ∃ v, e = .returned v ∧ Bys w' w.heap.size v (leB 8 (fBits n)) ∧ Keeps [] w w' := by
  obtain ⟨i5, hi, hz0, hz1, hz2⟩ := info_parts info5
  have N5 := Lib.hid hi; have N5z := Lib.hid hz0; have N5s := Lib.hid hz1; have N5b := Lib.hid hz2; clear hi hz0 hz1 hz2
  have htb := tobits_run
  go_enter Tryz.func45, Tryz.ntmps45
  cases hq : (FloatKind.f64.format.order n n != some Ordering.eq)
  · have hx : fBits n = n := by unfold fBits isNan; rw [hq]; rfl
    go_wp2_with fail
    rw [hx] at hn
    have HX := Lib.hid hx; clear hx
    go_loopg [3, 4, 5] 8 (fun g v out i wr => RFloAt w n g v out i wr)
    case atStart => exact ⟨0, n, [], by omega, rfl, rfl, hn, rfl, rfl, World.ownsRow_nil _ _ _ _, Keeps.refl _ _⟩
    case round =>
      obtain ⟨k, m, pre, hk, rfl, rfl, hm, rfl, hpre, h1, hkk⟩ := hrel
      have hpl0 : pre.length = k := by
        have := congrArg List.length hpre
        rw [List.length_append, leB_len, leB_len] at this
        omega
      have hpl : pre.length ≤ 8 := by omega
      have HPL := Lib.hid hpl0; clear hpl0
      unfold Bys at h1
      obtain ⟨la, lc, rfl⟩ := slice_shape5 h1
      have hsz := hkk.size
      have H1 := Lib.hid h1; have HK := Lib.hid hkk; have HP := Lib.hid hpre; clear h1 hkk hpre
      by_cases hk8 : k < 8
      · obtain ⟨z, hz⟩ : ∃ z, z = UInt8.ofNat (m % 256) := ⟨_, rfl⟩
        have hzm : (m : Int) % 256 = (z.toNat : Int) := by rw [hz, UInt8.toNat_ofNat']; omega
        have HZ := Lib.hid hz; clear hz
        have hzb : z.toNat < 256 := UInt8.toNat_lt z
        go_wp2_with (at_builtin; refine wpList_append_own _ rfl (.tmp 16) (.tmp 19) 31 rfl w.heap.size 5 i5 (.int .u8 0) 1 1 Tryz.underlying31 N5.out N5z.out N5s.out N5b.out rfl (by decide) _ _ _ rfl (H1.out.alloc _) ⟨wr.heap.size, 0, none⟩ 1 1 (bRow [z]) rfl rfl ?c1 (bRow_one _) ?c3 ?c4 ?c5 ?_)
        case c1 => exact rnew_one _ _ _
        case c3 => simp only [maxLen]; omega
        case c4 => omega
        case c5 => simp; omega
        intro v6 w6 hown6 hg6 _
        have hk6 := keeps_row (HK.out.trans (Keeps.alloc [] wr (.cells #[bCell z] 5)) (by simp)) (H1.out.alloc _) hg6
        have HO := Lib.hid hown6; have HK6 := Lib.hid hk6
        clear hown6 hg6 hk6
        go_wp2_with fail
        go_roundg (8 - (k + 1))
        case measure => omega
        case rel =>
          refine ⟨k + 1, m / 256, pre ++ [z], by omega, rfl, by go_num, by omega, by go_num, ?_, ?_, HK6.out⟩
          · rw [← HP.out, show 8 - k = (8 - (k + 1)) + 1 by omega, leB, ← HZ.out]
            simp
          · have := HO.out
            unfold Bys
            rw [bRow_append, List.length_append]
            exact this
      · have hke : k = 8 := by omega
        subst hke
        go_wp2_with fail
        go_ret
        refine ⟨_, rfl, ?_, HK.out⟩
        have h2 := HP.out
        simp only [Nat.sub_self, leB, List.append_nil] at h2
        have h3 : leB 8 n = pre := by rw [h2]; rfl
        rw [HX.out, h3]
        exact H1.out
  · have hx : fBits n = 9221120237041090561 := by unfold fBits isNan; rw [hq]; rfl
    rw [hx] at hn
    have HX := Lib.hid hx; clear hx
    go_wp2_with fail
    refine (nan_any _).mono ?_
    rintro e w' ⟨rfl, rfl⟩
    go_wp2_with fail
    go_loopg [3, 4, 5] 8 (fun g v out i wr => RFloAt w' 9221120237041090561 g v out i wr)
    case atStart => exact ⟨0, 9221120237041090561, [], by omega, rfl, rfl, hn, rfl, rfl, World.ownsRow_nil _ _ _ _, Keeps.refl _ _⟩
    case round =>
      obtain ⟨k, m, pre, hk, rfl, rfl, hm, rfl, hpre, h1, hkk⟩ := hrel
      have hpl0 : pre.length = k := by
        have := congrArg List.length hpre
        rw [List.length_append, leB_len, leB_len] at this
        omega
      have hpl : pre.length ≤ 8 := by omega
      have HPL := Lib.hid hpl0; clear hpl0
      unfold Bys at h1
      obtain ⟨la, lc, rfl⟩ := slice_shape5 h1
      have hsz := hkk.size
      have H1 := Lib.hid h1; have HK := Lib.hid hkk; have HP := Lib.hid hpre; clear h1 hkk hpre
      by_cases hk8 : k < 8
      · obtain ⟨z, hz⟩ : ∃ z, z = UInt8.ofNat (m % 256) := ⟨_, rfl⟩
        have hzm : (m : Int) % 256 = (z.toNat : Int) := by rw [hz, UInt8.toNat_ofNat']; omega
        have HZ := Lib.hid hz; clear hz
        have hzb : z.toNat < 256 := UInt8.toNat_lt z
        go_wp2_with (at_builtin; refine wpList_append_own _ rfl (.tmp 16) (.tmp 19) 31 rfl w'.heap.size 5 i5 (.int .u8 0) 1 1 Tryz.underlying31 N5.out N5z.out N5s.out N5b.out rfl (by decide) _ _ _ rfl (H1.out.alloc _) ⟨wr.heap.size, 0, none⟩ 1 1 (bRow [z]) rfl rfl ?c1 (bRow_one _) ?c3 ?c4 ?c5 ?_)
        case c1 => exact rnew_one _ _ _
        case c3 => simp only [maxLen]; omega
        case c4 => omega
        case c5 => simp; omega
        intro v6 w6 hown6 hg6 _
        have hk6 := keeps_row (HK.out.trans (Keeps.alloc [] wr (.cells #[bCell z] 5)) (by simp)) (H1.out.alloc _) hg6
        have HO := Lib.hid hown6; have HK6 := Lib.hid hk6
        clear hown6 hg6 hk6
        go_wp2_with fail
        go_roundg (8 - (k + 1))
        case measure => omega
        case rel =>
          refine ⟨k + 1, m / 256, pre ++ [z], by omega, rfl, by go_num, by omega, by go_num, ?_, ?_, HK6.out⟩
          · rw [← HP.out, show 8 - k = (8 - (k + 1)) + 1 by omega, leB, ← HZ.out]
            simp
          · have := HO.out
            unfold Bys
            rw [bRow_append, List.length_append]
            exact this
      · have hke : k = 8 := by omega
        subst hke
        go_wp2_with fail
        go_ret
        refine ⟨_, rfl, ?_, HK.out⟩
        have h2 := HP.out
        simp only [Nat.sub_self, leB, List.append_nil] at h2
        have h3 : leB 8 9221120237041090561 = pre := by rw [h2]; rfl
        rw [HX.out, h3]
        exact H1.out
end Go.Proofs.YthanhccpmonemaaGreatDoor
