/- pack.Writer, walked: what was laid is a list of bytes. -/
import Derived.Test.YthanhccpmonemaaGreatDoorRefD
import Derived.Lib.AppendStr
namespace Go.Proofs.YthanhccpmonemaaGreatDoor
open Go.RowKit

theorem info5 : (Tryz.prog.info? 5).map (fun i => (i.zero, i.size, i.bytes)) = some (some (.int .u8 0), 1, 1) := by kernel_rfl

/-- Bytes, as cells. -/
def bCell (b : UInt8) : Value := .int .u8 b.toNat
def bRow (bs : List UInt8) : List Value := bs.map bCell
theorem bRow_append (a b : List UInt8) : bRow (a ++ b) = bRow a ++ bRow b := List.map_append
theorem bRow_length (a : List UInt8) : (bRow a).length = a.length := List.length_map ..
theorem bRow_one (a : List UInt8) : ∀ u ∈ bRow a, u.oneCell' = true := by
  intro u hu
  obtain ⟨b, _, rfl⟩ := List.mem_map.1 hu
  rfl

/-- A number's bytes. -/
def numB (n : Nat) : List UInt8 := if h : n < 128 then [UInt8.ofNat n] else UInt8.ofNat (n % 128 + 128) :: numB (n / 128)
termination_by n
decreasing_by omega
theorem numB_small {n : Nat} (h : n < 128) : numB n = [UInt8.ofNat n] := by unfold numB; simp [h]
theorem numB_great {n : Nat} (h : 128 ≤ n) : numB n = UInt8.ofNat (n % 128 + 128) :: numB (n / 128) := by
  rw [numB]
  simp [show ¬ n < 128 by omega]
theorem numB_len : ∀ (k n : Nat), n < 128 ^ (k + 1) → (numB n).length ≤ k + 1
  | 0, n, h => by rw [numB_small (by simpa using h)]; simp
  | k + 1, n, h => by
    by_cases hn : n < 128
    · rw [numB_small hn]; simp
    · rw [numB_great (by omega)]
      have := numB_len k (n / 128) (by rw [Nat.div_lt_iff_lt_mul (by decide)]; rw [Nat.pow_succ] at h; exact h)
      simp
      omega
theorem numB_len64 {n : Nat} (h : n ≤ 18446744073709551615) : (numB n).length ≤ 10 := numB_len 9 n (by
  have : (128 : Nat) ^ (9 + 1) = 1180591620717411303424 := by decide
  omega)

/-- A writer at block b: bs was laid. -/
def Wr (w : World) (b base : Nat) (bs : List UInt8) : Prop :=
  ∃ lv, w.heap[b]? = some (.cells #[lv] 71 (0, 0)) ∧ w.ownsRow base 5 1 lv bs.length (bRow bs)

theorem Wr.keep {w w' : World} {b base : Nat} {bs : List UInt8} (h : Wr w b base bs) (hk : Keeps [] w w') : Wr w' b base bs := by
  obtain ⟨lv, h0, h1⟩ := h
  exact ⟨lv, hk.at h0 (by simp), row_keep0 h1 hk⟩

theorem below_keeps {B : Nat} {w w' : World} (h : Keeps [] w w') (hB : B ≤ w.heap.size) : Below B w w' :=
  ⟨h.os, h.tape, h.output, h.size, fun k hk => h.block k (by omega) (by simp)⟩
theorem keeps_below {B : Nat} {w w' : World} (h : Below B w w') : Keeps ((List.range w.heap.size).filter fun k => decide (B ≤ k)) w w' :=
  ⟨h.os, h.tape, h.output, h.size, fun k hk hn => h.block k (by
    apply Classical.byContradiction
    intro hb
    exact hn (List.mem_filter.2 ⟨List.mem_range.2 hk, by simp; omega⟩))⟩

/-- What laying leaves as it was: what lies below the base, and all that is no writer and no bytes. -/
structure Lays (base : Nat) (w w' : World) : Prop where
  os : w'.os = w.os
  tape : w'.tape = w.tape
  output : w'.output = w.output
  size : w.heap.size ≤ w'.heap.size
  block : ∀ k x, w.heap[k]? = some x → (k < base ∨ ∀ c f, x ≠ .cells c 71 f ∧ x ≠ .cells c 5 f) → w'.heap[k]? = some x
theorem Lays.refl (base : Nat) (w : World) : Lays base w w := ⟨rfl, rfl, rfl, Nat.le_refl _, fun _ _ h _ => h⟩
theorem Lays.trans {base : Nat} {a b c : World} (h : Lays base a b) (k : Lays base b c) : Lays base a c :=
  ⟨k.os.trans h.os, k.tape.trans h.tape, k.output.trans h.output, Nat.le_trans h.size k.size, fun i x hx ho => k.block i x (h.block i x hx ho) ho⟩
theorem Lays.of_keeps {base : Nat} {w w' : World} (h : Keeps [] w w') : Lays base w w' := ⟨h.os, h.tape, h.output, h.size, fun _ _ hx _ => h.at hx (by simp)⟩
theorem Lays.below {base : Nat} {w w' : World} (h : Lays base w w') (hB : base ≤ w.heap.size) : Below base w w' :=
  ⟨h.os, h.tape, h.output, h.size, fun k hk => by
    have hlt : k < w.heap.size := by omega
    rw [Array.getElem?_eq_getElem hlt]
    exact h.block k _ (Array.getElem?_eq_getElem hlt) (.inl hk)⟩

/-- The writer's row has grown; it is laid in the writer. -/
theorem Wr.grew {w wa w6 : World} {b base n n' : Nat} {lv v' : Value} {xs : List Value} {bs' : List UInt8} (h0 : w.heap[b]? = some (.cells #[lv] 71 (0, 0))) (hka : Keeps [] w wa)
    (hown : wa.ownsRow base 5 1 lv n xs) (hg : wa.grownBy w6 lv.ownBlock) (hown6 : w6.ownsRow base 5 1 v' n' (bRow bs')) (hn : n' = bs'.length) (hb : base ≤ b) (hB : base ≤ w.heap.size) :
    w6.heap[b]? = some (.cells #[lv] 71 (0, 0)) ∧ Wr (w6.setCell ⟨b, 0, none⟩ v') b base bs' ∧ Lays base w (w6.setCell ⟨b, 0, none⟩ v') := by
  have h6 : w6.heap[b]? = some (.cells #[lv] 71 (0, 0)) := by
    rw [hg.block b (h_lt (hka.at h0 (by simp))) fun e1 => ?_]
    · exact hka.at h0 (by simp)
    · obtain ⟨cur, hc⟩ := own_block hown e1.symm
      rw [hka.at h0 (by simp)] at hc
      simp at hc
  have hs : Keeps [b] w6 (w6.setCell ⟨b, 0, none⟩ v') := Keeps.setCell _ _ _ _ (by simp)
  subst hn
  refine ⟨h6, ⟨v', ?_, row_of_block hown6 fun g hgb => ?_⟩, ?_⟩
  · have := h_set_eq (i := 0) (u := v') h6
    simpa using this
  · obtain ⟨cur, hc⟩ := own_block hown6 hgb
    refine hs.block g (h_lt hc) ?_
    intro hm
    simp at hm
    subst hm
    rw [h6] at hc
    simp at hc
  · have h1 := hg.size
    have h2 := hka.size
    refine ⟨hs.os.trans (hg.os.trans hka.os), hs.tape.trans (hg.tape.trans hka.tape), hs.output.trans (hg.output.trans hka.output), by simp [World.setCell]; omega, fun k x hx ho => ?_⟩
    have ha := hka.at hx (by simp)
    have hx6 : w6.heap[k]? = some x := by
      rw [hg.block k (h_lt ha) fun e1 => ?_]
      · exact ha
      · obtain ⟨cur, hc⟩ := own_block hown e1.symm
        rw [ha] at hc
        rcases ho with ho | ho
        · have := (hown.lt k e1.symm).1; omega
        · exact (ho cur (0, 0)).2 (Option.some.inj hc)
    refine hs.at hx6 ?_
    intro hm
    simp at hm
    subst hm
    rcases ho with ho | ho
    · omega
    · rw [h6] at hx6
      exact (ho _ (0, 0)).1 (Option.some.inj hx6).symm

set_option maxHeartbeats 1000000 in
theorem byte_any {w : World} {b base : Nat} {bs : List UInt8} (h : Wr w b base bs) (hb : base ≤ b) (hB : base ≤ w.heap.size) (hlen : bs.length ≤ 1000000) (z : UInt8) :
    Calls Tryz.prog 42 #[.pointer (some ⟨b, 0, none⟩), .int .u8 z.toNat] w fun e w' => e = .returned (.tuple #[]) ∧ Wr w' b base (bs ++ [z]) ∧ Lays base w w' := by
  obtain ⟨i5, hi, hz0, hz1, hz2⟩ := info_parts info5
  have N5 := Lib.hid hi; have N5z := Lib.hid hz0; have N5s := Lib.hid hz1; have N5b := Lib.hid hz2; clear hi hz0 hz1 hz2
  obtain ⟨lv, h0, h1⟩ := h
  obtain ⟨la, lc, rfl⟩ := slice_shape5 h1
  have c0 := cell_of_heap h0 0
  simp at c0
  have H0 := Lib.hid h0; have H1 := Lib.hid h1; clear h0 h1
  go_enter Tryz.func42, Tryz.ntmps42
  go_wp2_with (at_builtin; refine wpList_append_own _ rfl (.tmp 8) (.tmp 10) 31 rfl base 5 i5 (.int .u8 0) 1 1 Tryz.underlying31 N5.out N5z.out N5s.out N5b.out rfl (by decide) _ _ _ rfl (H1.out.alloc _) ⟨w.heap.size, 0, none⟩ 1 1 (bRow [z]) rfl rfl ?c1 (bRow_one _) ?c3 ?c4 ?c5 ?_)
  case c1 => exact rnew_one _ _ _
  case c3 => simp only [maxLen]; omega
  case c4 => omega
  case c5 => simp; omega
  intro v6 w6 hown6 hg6 _
  rw [← bRow_append] at hown6
  obtain ⟨h6, hW, hBl⟩ := Wr.grew H0.out (Keeps.alloc [] w (.cells #[bCell z] 5)) (H1.out.alloc _) hg6 hown6 (by simp) hb hB
  obtain ⟨na, nc, rfl⟩ := slice_shape5 hown6
  have c6 := cell_of_heap h6 0
  have f6 := frozen_of_heap h6 0
  simp at c6
  have HW := Lib.hid hW; have HBL := Lib.hid hBl
  clear hown6 hg6 h6 hW hBl
  go_wp2_with fail
  go_end0
  exact ⟨rfl, HW.out, HBL.out⟩

theorem or128 : ∀ z : Nat, z < 256 → bits BinOp.or IntKind.u8 (z : Int) 128 = ((z % 128 + 128 : Nat) : Int) := by
  have h : ((List.range 256).all fun z => bits BinOp.or IntKind.u8 (z : Int) 128 == ((z % 128 + 128 : Nat) : Int)) = true := by kernel_rfl
  intro z hz
  simpa using (List.all_eq_true.1 h) z (List.mem_range.2 hz)
theorem or128m (m : Nat) : bits BinOp.or IntKind.u8 ((m : Int) % 256) 128 = ((UInt8.ofNat (m % 128 + 128)).toNat : Int) := by
  have h := or128 (m % 256) (by omega)
  have e1 : ((m % 256 : Nat) : Int) = (m : Int) % 256 := by omega
  rw [e1] at h
  rw [h, UInt8.toNat_ofNat']
  omega

def NumAt (w : World) (b base : Nat) (bs : List UInt8) (n : Nat) (g : Nat) (v : Value) (wr : World) : Prop :=
  ∃ (m : Nat) (pre : List UInt8), m = g ∧ m ≤ n ∧ v = .int .u64 m ∧ pre ++ numB m = numB n ∧ Wr wr b base (bs ++ pre) ∧ Lays base w wr

set_option maxRecDepth 100000 in
set_option maxHeartbeats 1000000 in
theorem wnum_any {w : World} {b base : Nat} {bs : List UInt8} (h : Wr w b base bs) (hb : base ≤ b) (hB : base ≤ w.heap.size) (hlen : bs.length ≤ 1000000) (n : Nat) (hn : n ≤ 18446744073709551615) :
    Calls Tryz.prog 34 #[.pointer (some ⟨b, 0, none⟩), .int .u64 n] w fun e w' => e = .returned (.tuple #[]) ∧ Wr w' b base (bs ++ numB n) ∧ Lays base w w' := by
  obtain ⟨i5, hi, hz0, hz1, hz2⟩ := info_parts info5
  have N5 := Lib.hid hi; have N5z := Lib.hid hz0; have N5s := Lib.hid hz1; have N5b := Lib.hid hz2; clear hi hz0 hz1 hz2
  have hl64 := numB_len64 hn
  have H := Lib.hid h; clear h
  go_enter Tryz.func34, Tryz.ntmps34
  go_wp2_with fail
  go_loopg [1] n (fun g v wr => NumAt w b base bs n g v wr)
  case atStart => exact ⟨n, [], rfl, Nat.le_refl _, rfl, rfl, by simpa using H.out, Lays.refl _ _⟩
  case round =>
    obtain ⟨m, pre, rfl, hm, rfl, hpre, hW, hBl⟩ := hrel
    have hpl : pre.length ≤ 10 := by
      have := congrArg List.length hpre
      rw [List.length_append] at this
      omega
    obtain ⟨lv, h0, h1⟩ := hW
    obtain ⟨la, lc, rfl⟩ := slice_shape5 h1
    have c0 := cell_of_heap h0 0
    simp at c0
    have hsz := hBl.size
    rw [List.length_append] at h0 h1
    have H0 := Lib.hid h0; have H1 := Lib.hid h1; have HB := Lib.hid hBl; have HP := Lib.hid hpre; clear h0 h1 hBl hpre
    by_cases h128 : 128 ≤ m
    · have hor := or128m m
      have hnb := numB_great h128
      obtain ⟨z, hz⟩ : ∃ z, z = UInt8.ofNat (m % 128 + 128) := ⟨_, rfl⟩
      rw [← hz] at hor hnb
      have HNB := Lib.hid hnb; clear hz hnb
      go_wp2_with (at_builtin; refine wpList_append_own _ rfl (.tmp 10) (.tmp 14) 31 rfl base 5 i5 (.int .u8 0) 1 1 Tryz.underlying31 N5.out N5z.out N5s.out N5b.out rfl (by decide) _ _ _ rfl (H1.out.alloc _) ⟨wr.heap.size, 0, none⟩ 1 1 (bRow [z]) rfl rfl ?c1 (bRow_one _) ?c3 ?c4 ?c5 ?_)
      case c1 => exact rnew_one _ _ _
      case c3 => simp only [maxLen]; omega
      case c4 => omega
      case c5 => simp; omega
      intro v6 w6 hown6 hg6 _
      obtain ⟨h6, hW, hBw⟩ := Wr.grew (bs' := bs ++ (pre ++ [z])) H0.out (Keeps.alloc [] wr (.cells #[bCell z] 5)) (H1.out.alloc _) hg6 (by simpa [bRow_append, List.append_assoc] using hown6) (by simp; omega) hb (by omega)
      obtain ⟨na, nc, rfl⟩ := slice_shape5 hown6
      have c6 := cell_of_heap h6 0
      have f6 := frozen_of_heap h6 0
      simp at c6
      have HW := Lib.hid hW; have HBW := Lib.hid (HB.out.trans hBw)
      clear hown6 hg6 h6 hW hBw
      go_wp2_with fail
      go_roundg (m / 128)
      case measure => omega
      case rel =>
        refine ⟨m / 128, pre ++ [z], rfl, by omega, by go_num, ?_, HW.out, HBW.out⟩
        rw [← HP.out, HNB.out]
        simp
    · have hnb := numB_small (n := m) (by omega)
      obtain ⟨z, hz⟩ : ∃ z, z = UInt8.ofNat m := ⟨_, rfl⟩
      have hzm : (m : Int) = (z.toNat : Int) := by rw [hz, UInt8.toNat_ofNat']; omega
      rw [← hz] at hnb
      have HNB := Lib.hid hnb; clear hz hnb
      have hzb : z.toNat < 256 := UInt8.toNat_lt z
      go_wp2_with (at_builtin; refine wpList_append_own _ rfl (.tmp 24) (.tmp 27) 31 rfl base 5 i5 (.int .u8 0) 1 1 Tryz.underlying31 N5.out N5z.out N5s.out N5b.out rfl (by decide) _ _ _ rfl (H1.out.alloc _) ⟨wr.heap.size, 0, none⟩ 1 1 (bRow [z]) rfl rfl ?c1 (bRow_one _) ?c3 ?c4 ?c5 ?_)
      case c1 => exact rnew_one _ _ _
      case c3 => simp only [maxLen]; omega
      case c4 => omega
      case c5 => simp; omega
      intro v6 w6 hown6 hg6 _
      obtain ⟨h6, hW, hBw⟩ := Wr.grew (bs' := bs ++ (pre ++ [z])) H0.out (Keeps.alloc [] wr (.cells #[bCell z] 5)) (H1.out.alloc _) hg6 (by simpa [bRow_append, List.append_assoc] using hown6) (by simp; omega) hb (by omega)
      obtain ⟨na, nc, rfl⟩ := slice_shape5 hown6
      have c6 := cell_of_heap h6 0
      have f6 := frozen_of_heap h6 0
      simp at c6
      have HW := Lib.hid hW; have HBW := Lib.hid (HB.out.trans hBw)
      clear hown6 hg6 h6 hW hBw
      go_wp2_with fail
      go_end0
      refine ⟨rfl, ?_, HBW.out⟩
      have h2 := HP.out
      rw [HNB.out] at h2
      rw [← h2]
      exact HW.out
end Go.Proofs.YthanhccpmonemaaGreatDoor
