/- A number's value, as the document lays it; a table, as both lay it; walked. -/
import Derived.Test.YthanhccpmonemaaGreatDoorVal
namespace Go.Proofs.YthanhccpmonemaaGreatDoor
open Go.RowKit

theorem Bys.src {w : World} {base : Nat} {v : Value} {bs : List UInt8} (h : Bys w base v bs) (hn : 0 < bs.length) : ∃ g cap, v = .slice (some ⟨g, 0, none⟩) bs.length cap ∧ ∀ j u, (bRow bs)[j]? = some u → w.cell? ((⟨g, 0, none⟩ : Addr).add j) = some u := by
  have h0 := h
  unfold Bys at h
  rcases h.2 with ⟨_, e⟩ | ⟨g, cap, cur, rfl, _⟩
  · omega
  · exact ⟨g, cap, rfl, World.ownsRow.cells (g := g) h0 rfl⟩
theorem numB_pos (n : Nat) : 0 < (numB n).length := by
  rw [numB]
  split <;> simp
theorem Bys.keep {w w' : World} {base : Nat} {v : Value} {bs : List UInt8} (h : Bys w base v bs) (hk : Keeps [] w w') : Bys w' base v bs := row_keep0 h hk
theorem Bys.mono {w : World} {base base' : Nat} {v : Value} {bs : List UInt8} (h : Bys w base v bs) (hb : base' ≤ base) : Bys w base' v bs := row_mono h hb

/-- What LayVal makes of a number. -/
def valB (c : Nat) : List UInt8 := 1 :: leB 8 (fBits c)
theorem valB_len (c : Nat) : (valB c).length = 9 := by simp [valB, leB_len]

set_option maxRecDepth 100000 in
set_option maxHeartbeats 2000000 in
theorem rlayval_any (w : World) (c : Nat) (hc : Cln c) (hn : fBits c ≤ 18446744073709551615) :
    Calls Tryz.prog 39 #[numVal c] w fun e w' => ∃ v, e = .returned v ∧ Bys w' w.heap.size v (valB c) ∧ Keeps [] w w' := by
  obtain ⟨i5, hi, hz0, hz1, hz2⟩ := info_parts info5
  have N5 := Lib.hid hi; have N5z := Lib.hid hz0; have N5s := Lib.hid hz1; have N5b := Lib.hid hz2; clear hi hz0 hz1 hz2
  have HC := Lib.hid hc; clear hc
  go_enter Tryz.func39, Tryz.ntmps39
  go_wp2_with fail
  refine (rtaken_any c HC.out _).mono ?_
  rintro e w1 ⟨rfl, hk⟩
  have k1 := hk.at (h_new w (.cells #[.int .i64 1, .float .f64 c, .string ⟨#[]⟩] 47)) (by simp)
  have hk0 : Keeps [] w w1 := (Keeps.alloc [] w _).trans hk (by simp)
  have K1 := Lib.hid k1; have HK := Lib.hid hk0; clear k1 hk hk0
  go_wp2_with ((with_reducible show wpList _ _ _ (Oper.mk none (.store 47 _ _) _ _ _ _ :: _) _ _); refine stT 47 w.heap.size 0 _ K1.out rfl (.agg #[.int .i64 1, .float .f64 c, .string ⟨#[]⟩]) rfl (by kernel_rfl) (by simp [Value.cells]) (by simp [Value.cells, Value.oneCell']) ?_)
  intro w2 hs2
  have k2 := hs2.row
  have hk2 : Keeps [] w w2 := HK.out.trans hs2.keeps (by simp)
  have c0 := cell_of_heap k2 0
  have c1 := cell_of_heap k2 1
  simp at c0 c1
  have hsz := hk2.size
  have hlt := h_lt k2
  have HK2 := Lib.hid hk2; have K2 := Lib.hid k2
  clear hs2 hk2 k2
  go_wp2_with fail
  refine (rfloat_any _ c hn).mono ?_
  rintro e w3 ⟨v3, rfl, h3, hk3⟩
  obtain ⟨g3, c3, rfl, hsrc⟩ := h3.src (by simp [leB_len])
  rw [leB_len] at h3
  have hx : w3.ownsRow w.heap.size 5 1 (.slice (some ⟨w2.heap.size, 0, none⟩) 1 1) 1 (bRow [1]) := by
    have h4 := World.ownsRow_lit (base := w.heap.size) (size := 1) (e := 5) w2 #[bCell 1] 1 hsz (by decide) rfl
    exact row_keep0 h4 hk3
  have hka : Keeps [] w w3 := (HK2.out.trans (Keeps.alloc [] w2 _) (by simp)).trans hk3 (by simp)
  have hl8 : (bRow (leB 8 (fBits c))).length = 8 := by rw [bRow_length, leB_len]
  have HX := Lib.hid hx; have HSRC := Lib.hid hsrc; have HKA := Lib.hid hka; have HL8 := Lib.hid hl8
  clear h3 hx hsrc hka hk3 hl8
  rw [leB_len]
  go_wp2_with (at_builtin; refine wpList_append_own _ rfl (.tmp 14) (.tmp 17) 31 rfl w.heap.size 5 i5 (.int .u8 0) 1 1 Tryz.underlying31 N5.out N5z.out N5s.out N5b.out rfl (by decide) _ _ _ rfl HX.out ⟨g3, 0, none⟩ 8 c3 (bRow (leB 8 (fBits c))) rfl HL8.out HSRC.out (bRow_one _) ?c3 ?c4 ?c5 ?_)
  case c3 => simp only [maxLen]; omega
  case c4 => omega
  case c5 => exact HKA.out.size
  intro v6 w6 hown6 hg6 _
  have hk6 := keeps_row HKA.out HX.out hg6
  have HO := Lib.hid hown6; have HK6 := Lib.hid hk6
  clear hown6 hg6 hk6
  go_wp2_with fail
  go_ret
  refine ⟨_, rfl, ?_, HK6.out⟩
  have h7 := HO.out
  rw [← bRow_append] at h7
  unfold Bys
  rw [valB_len]
  exact h7

set_option maxRecDepth 100000 in
set_option maxHeartbeats 2000000 in
theorem bytes_any {w : World} {b base : Nat} {bs : List UInt8} (h : Wr w b base bs) (hlen : bs.length ≤ 1000000) (hn : 0 < bs.length) :
    Calls Tryz.prog 28 #[.pointer (some ⟨b, 0, none⟩)] w fun e w' => ∃ v, e = .returned v ∧ Bys w' w.heap.size v bs ∧ Keeps [] w w' := by
  obtain ⟨i5, hi, hz0, hz1, hz2⟩ := info_parts info5
  have N5 := Lib.hid hi; have N5z := Lib.hid hz0; have N5s := Lib.hid hz1; have N5b := Lib.hid hz2; clear hi hz0 hz1 hz2
  obtain ⟨lv, h0, h1⟩ := h
  obtain ⟨g, cap, rfl, hsrc⟩ := Bys.src (base := base) h1 hn
  have c0 := cell_of_heap h0 0
  simp at c0
  have hg : g < w.heap.size := (h1.lt g rfl).2
  have hbw := h_lt h0
  have hsrc' := World.ownsRow.cells (row_keep0 h1 (Keeps.alloc [] w (.cells #[] 5))) (g := g) rfl
  have hlit : (w.alloc (.cells #[] 5)).ownsRow w.heap.size 5 1 (.slice (some ⟨w.heap.size, 0, none⟩) 0 0) 0 [] := World.ownsRow_lit w #[] 0 (Nat.le_refl _) (by decide) rfl
  have hl1 : (bRow bs).length = bs.length * 1 := by rw [bRow_length]; omega
  have HSRC := Lib.hid hsrc'; have HLIT := Lib.hid hlit; have HL1 := Lib.hid hl1; clear h0 h1 hsrc hsrc' hlit hl1
  go_enter Tryz.func28, Tryz.ntmps28
  go_wp2_with (at_builtin; refine wpList_append_own _ rfl (.tmp 3) (.tmp 7) 31 rfl w.heap.size 5 i5 (.int .u8 0) 1 1 Tryz.underlying31 N5.out N5z.out N5s.out N5b.out rfl (by decide) _ 0 [] rfl HLIT.out ⟨g, 0, none⟩ bs.length cap (bRow bs) rfl HL1.out HSRC.out (bRow_one _) ?c3 ?c4 ?c5 ?_)
  case c3 => simp only [maxLen]; omega
  case c4 => omega
  case c5 => simp
  intro v6 w6 hown6 hg6 _
  have hk6 : Keeps [] w w6 := (Keeps.alloc [] w (.cells #[] 5)).trans (fp' := [w.heap.size]) (Keeps.grown hg6 (by simp [Value.ownBlock])) (by simp)
  have HO := Lib.hid hown6; have HK6 := Lib.hid hk6
  clear hown6 hg6 hk6
  go_wp2_with fail
  go_ret
  refine ⟨_, rfl, ?_, HK6.out⟩
  simpa [Bys] using HO.out
end Go.Proofs.YthanhccpmonemaaGreatDoor
