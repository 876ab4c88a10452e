/- Floats' bytes, walked. -/
import Derived.Test.YthanhccpmonemaaGreatDoorPack
namespace Go.Proofs.YthanhccpmonemaaGreatDoor
open Go.RowKit

/-- Is it no number? -/
def isNan (n : Nat) : Bool := FloatKind.f64.format.order n n != some Ordering.eq

theorem isnan_any (n : Nat) (w : World) : Calls Tryz.prog 54 #[.float .f64 n] w fun e w' => e = .returned (.bool (isNan n)) ∧ w' = w := by
  cases h : (FloatKind.f64.format.order n n != some Ordering.eq)
  · have hz : isNan n = false := h
    have HZ := Lib.hid hz; clear hz
    go_enter Tryz.func54, Tryz.ntmps54
    go_wp2
    go_ret
    exact ⟨by rw [HZ.out]; rfl, rfl⟩
  · have hz : isNan n = true := h
    have HZ := Lib.hid hz; clear hz
    go_enter Tryz.func54, Tryz.ntmps54
    go_wp2
    go_ret
    exact ⟨by rw [HZ.out]; rfl, rfl⟩

theorem frombits_run (w : World) : Sem.run Tryz.prog (callFunc 58 #[.int .u64 9221120237041090561]) w = .ok (.value (.float .f64 9221120237041090561)) w := by kernel_rfl
theorem tobits_run (n : Nat) (w : World) : Sem.run Tryz.prog (callFunc 50 #[.float .f64 n]) w = .ok (.value (.int .u64 n)) w := by kernel_rfl

set_option maxRecDepth 100000 in
theorem nan_any (w : World) : Calls Tryz.prog 49 #[] w fun e w' => e = .returned (.float .f64 9221120237041090561) ∧ w' = w := by
  have hfb := frombits_run
  go_enter Tryz.func49, Tryz.ntmps49
  go_wp2
  go_ret
  exact ⟨rfl, rfl⟩

/-- A float's bits; of one that is no number just some. -/
def fBits (n : Nat) : Nat := if isNan n then 9221120237041090561 else n
set_option maxRecDepth 100000 in
theorem bits_any (n : Nat) (w : World) : Calls Tryz.prog 47 #[.float .f64 n] w fun e w' => e = .returned (.int .u64 (fBits n)) ∧ w' = w := by
  cases h : isNan n
  · have hz : fBits n = n := by simp [fBits, h]
    have HZ := Lib.hid hz; have H := Lib.hid h; clear hz h
    have htb := tobits_run
    go_enter Tryz.func47, Tryz.ntmps47
    go_wp2_with fail
    refine (isnan_any n _).mono ?_
    rintro e w' ⟨rfl, rfl⟩
    rw [H.out]
    go_wp2_with fail
    go_ret
    exact ⟨by rw [HZ.out]; rfl, rfl⟩
  · have hz : fBits n = 9221120237041090561 := by simp [fBits, h]
    have HZ := Lib.hid hz; have H := Lib.hid h; clear hz h
    have htb := tobits_run
    go_enter Tryz.func47, Tryz.ntmps47
    go_wp2_with fail
    refine (isnan_any n _).mono ?_
    rintro e w' ⟨rfl, rfl⟩
    rw [H.out]
    go_wp2_with fail
    refine (nan_any _).mono ?_
    rintro e w' ⟨rfl, rfl⟩
    go_wp2_with fail
    go_ret
    exact ⟨by rw [HZ.out]; rfl, rfl⟩

/-- k bytes, the lowest first. -/
def leB : Nat → Nat → List UInt8
  | 0, _ => []
  | k + 1, n => UInt8.ofNat (n % 256) :: leB k (n / 256)
theorem leB_len : ∀ k n, (leB k n).length = k
  | 0, _ => rfl
  | k + 1, n => by simp [leB, leB_len k]

def FloAt (w : World) (b base : Nat) (bs : List UInt8) (n : Nat) (g : Nat) (v i : Value) (wr : World) : Prop :=
  ∃ (k m : Nat) (pre : List UInt8), k ≤ 8 ∧ g = 8 - k ∧ i = .int .i64 k ∧ m ≤ 18446744073709551615 ∧ v = .int .u64 m ∧ pre ++ leB (8 - k) m = leB 8 n ∧ Wr wr b base (bs ++ pre) ∧ Lays base w wr

set_option maxRecDepth 100000 in
set_option maxHeartbeats 1000000 in
theorem wfloat_any {w : World} {b base : Nat} {bs : List UInt8} (h : Wr w b base bs) (hb : base ≤ b) (hB : base ≤ w.heap.size) (hlen : bs.length ≤ 1000000) (n : Nat) (hn : fBits n ≤ 18446744073709551615) :
    Calls Tryz.prog 43 #[.pointer (some ⟨b, 0, none⟩), .float .f64 n] w fun e w' => e = .returned (.tuple #[]) ∧ Wr w' b base (bs ++ leB 8 (fBits n)) ∧ Lays base w w' := by
  obtain ⟨i5, hi, hz0, hz1, hz2⟩ := info_parts info5
  have N5 := Lib.hid hi; have N5z := Lib.hid hz0; have N5s := Lib.hid hz1; have N5b := Lib.hid hz2; clear hi hz0 hz1 hz2
  have H := Lib.hid h; clear h
  go_enter Tryz.func43, Tryz.ntmps43
  go_wp2_with fail
  refine (bits_any n _).mono ?_
  rintro e w' ⟨rfl, rfl⟩
  go_wp2_with fail
  go_loopg [4, 5] 8 (fun g v i wr => FloAt w' b base bs (fBits n) g v i wr)
  case atStart => exact ⟨0, fBits n, [], by omega, rfl, rfl, hn, rfl, rfl, by simpa using H.out, Lays.refl _ _⟩
  case round =>
    obtain ⟨k, m, pre, hk, rfl, rfl, hm, rfl, hpre, hW, hBl⟩ := hrel
    have hpl0 : pre.length = k := by
      have := congrArg List.length hpre
      rw [List.length_append, leB_len, leB_len] at this
      omega
    have hpl : pre.length ≤ 8 := by omega
    have HPL := Lib.hid hpl0; clear hpl0
    obtain ⟨lv, h0, h1⟩ := hW
    obtain ⟨la, lc, rfl⟩ := slice_shape5 h1
    have c0 := cell_of_heap h0 0
    simp at c0
    have hsz := hBl.size
    rw [List.length_append] at h0 h1
    have H0 := Lib.hid h0; have H1 := Lib.hid h1; have HB := Lib.hid hBl; have HP := Lib.hid hpre; clear h0 h1 hBl hpre
    by_cases hk8 : k < 8
    · obtain ⟨z, hz⟩ : ∃ z, z = UInt8.ofNat (m % 256) := ⟨_, rfl⟩
      have hzm : (m : Int) % 256 = (z.toNat : Int) := by rw [hz, UInt8.toNat_ofNat']; omega
      have HZ := Lib.hid hz; clear hz
      have hzb : z.toNat < 256 := UInt8.toNat_lt z
      go_wp2_with (at_builtin; refine wpList_append_own _ rfl (.tmp 16) (.tmp 19) 31 rfl base 5 i5 (.int .u8 0) 1 1 Tryz.underlying31 N5.out N5z.out N5s.out N5b.out rfl (by decide) _ _ _ rfl (H1.out.alloc _) ⟨wr.heap.size, 0, none⟩ 1 1 (bRow [z]) rfl rfl ?c1 (bRow_one _) ?c3 ?c4 ?c5 ?_)
      case c1 => exact rnew_one _ _ _
      case c3 => simp only [maxLen]; omega
      case c4 => omega
      case c5 => simp; omega
      intro v6 w6 hown6 hg6 _
      obtain ⟨h6, hW, hBw⟩ := Wr.grew (bs' := bs ++ (pre ++ [z])) H0.out (Keeps.alloc [] wr (.cells #[bCell z] 5)) (H1.out.alloc _) hg6 (by simpa [bRow_append, List.append_assoc] using hown6) (by simp; omega) hb (by omega)
      obtain ⟨na, nc, rfl⟩ := slice_shape5 hown6
      have c6 := cell_of_heap h6 0
      have f6 := frozen_of_heap h6 0
      simp at c6
      have HW := Lib.hid hW; have HBW := Lib.hid (HB.out.trans hBw)
      clear hown6 hg6 h6 hW hBw
      go_wp2_with fail
      go_roundg (8 - (k + 1))
      case measure => omega
      case rel =>
        refine ⟨k + 1, m / 256, pre ++ [z], by omega, rfl, by go_num, by omega, by go_num, ?_, HW.out, HBW.out⟩
        rw [← HP.out, show 8 - k = (8 - (k + 1)) + 1 by omega, leB, ← HZ.out]
        simp
    · have hke : k = 8 := by omega
      subst hke
      go_wp2_with fail
      go_end0
      refine ⟨rfl, ?_, HB.out⟩
      have h2 := HP.out
      simp only [Nat.sub_self, leB, List.append_nil] at h2
      have h3 : leB 8 (fBits n) = pre := by rw [h2]; rfl
      rw [h3]
      exact ⟨_, H0.out, by rw [List.length_append]; exact H1.out⟩
end Go.Proofs.YthanhccpmonemaaGreatDoor
