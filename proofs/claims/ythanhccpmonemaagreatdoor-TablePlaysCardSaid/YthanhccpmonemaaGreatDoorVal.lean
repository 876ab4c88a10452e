/- Numbers as values, laid: the program's way, the document's way; walked. -/
import Derived.Test.YthanhccpmonemaaGreatDoorLayB
namespace Go.Proofs.YthanhccpmonemaaGreatDoor
open Go.RowKit

/-- A number that is no -0. -/
def Cln (c : Nat) : Prop := c = 0 ∨ (FloatKind.f64.format.order c 0 != some Ordering.eq) = true
theorem cln_zClean (n : Nat) : Cln (zClean n) := by
  unfold Cln zClean
  cases h : (FloatKind.f64.format.order n 0 == some Ordering.eq)
  · right
    simp only [Bool.false_eq_true, if_false]
    rw [bne, h]; rfl
  · left; rfl

abbrev numVal (c : Nat) : Value := .agg #[.int .i64 1, .float .f64 c, .string ⟨#[]⟩]

set_option maxRecDepth 100000 in
theorem plain_any (c : Nat) (hc : Cln c) (w : World) : Calls Tryz.prog 51 #[.float .f64 c] w fun e w' => e = .returned (.bool true) ∧ w' = w := by
  rcases hc with rfl | hc
  · have h0 : (FloatKind.f64.format.order 0 0 != some Ordering.eq) = false := by kernel_rfl
    have h1 : ∀ W : World, Sem.run Tryz.prog (binOp BinOp.quo 32 (.float .f64 4607182418800017408) (.float .f64 0)) W = .ok (.float .f64 9218868437227405312) W := by intro W; kernel_rfl
    have h2 : (FloatKind.f64.format.order 9218868437227405312 0 == some Ordering.gt) = true := by kernel_rfl
    go_enter Tryz.func51, Tryz.ntmps51
    go_wp2_with fail
    go_ret
    exact ⟨rfl, rfl⟩
  · go_enter Tryz.func51, Tryz.ntmps51
    go_wp2_with fail
    go_ret
    exact ⟨rfl, rfl⟩

set_option maxRecDepth 100000 in
set_option maxHeartbeats 1000000 in
theorem right_any (c : Nat) (hc : Cln c) (w : World) : Calls Tryz.prog 46 #[numVal c] w fun e w' => e = .returned (.bool true) ∧ Keeps [] w w' := by
  have HC := Lib.hid hc; clear hc
  go_enter Tryz.func46, Tryz.ntmps46
  go_wp2_with fail
  refine (plain_any c HC.out _).mono ?_
  rintro e w' ⟨rfl, rfl⟩
  go_wp2_with fail
  go_ret
  exact ⟨rfl, Keeps.alloc [] w _⟩

set_option maxRecDepth 100000 in
set_option maxHeartbeats 1000000 in
theorem taken_any (c : Nat) (hc : Cln c) (w : World) : Calls Tryz.prog 41 #[numVal c] w fun e w' => e = .returned (numVal c) ∧ Keeps [] w w' := by
  have HC := Lib.hid hc; clear hc
  go_enter Tryz.func41, Tryz.ntmps41
  go_wp2_with fail
  refine (right_any c HC.out _).mono ?_
  rintro e w' ⟨rfl, hk⟩
  have k1 := hk.at (h_alloc (h_new w (.cells #[.int .i64 1, .float .f64 c, .string ⟨#[]⟩] 47))) (by simp)
  have k2 := hk.at (h_new (w.alloc (.cells #[.int .i64 1, .float .f64 c, .string ⟨#[]⟩] 47)) (.cells #[.int .i64 0, .float .f64 0, .string ⟨#[]⟩] 47)) (by simp)
  simp only [World.size_alloc] at k2
  have a0 := cell_of_heap k1 0
  have a1 := cell_of_heap k1 1
  have a2 := cell_of_heap k1 2
  simp at a0 a1 a2
  have hk0 : Keeps [] w w' := ((Keeps.alloc [] w _).trans (Keeps.alloc [] _ _) (by simp)).trans hk (by simp)
  have K2 := Lib.hid k2; have HK := Lib.hid hk0; clear k1 k2 hk hk0
  go_wp2_with ((with_reducible show wpList _ _ _ (Oper.mk none (.store 47 _ _) _ _ _ _ :: _) _ _); refine stT 47 (w.heap.size + 1) 0 _ K2.out rfl (.agg #[.int .i64 1, .float .f64 c, .string ⟨#[]⟩]) rfl (by kernel_rfl) (by simp [Value.cells]) (by simp [Value.cells, Value.oneCell']) ?_)
  intro w2 hs2
  have c0 := cell_of_heap hs2.row 0
  have c1 := cell_of_heap hs2.row 1
  have c2 := cell_of_heap hs2.row 2
  simp at c0 c1 c2
  have hk2 : Keeps [] w w2 := HK.out.trans hs2.keeps (by simp)
  clear hs2
  go_wp2_with fail
  exact bodyPost_ret (v := numVal c) (by simp [numVal, results, Tryz.results41, go_sem, c0, c1, c2]) rfl ⟨rfl, hk2⟩

set_option maxRecDepth 100000 in
set_option maxHeartbeats 2000000 in
/-- value.Lay of a number. -/
theorem vlay_any {w : World} {b base : Nat} {bs : List UInt8} (h : Wr w b base bs) (hb : base ≤ b) (hB : base ≤ w.heap.size) (hlen : bs.length ≤ 900000) (c : Nat) (hc : Cln c) (hn : fBits c ≤ 18446744073709551615) :
    Calls Tryz.prog 36 #[.pointer (some ⟨b, 0, none⟩), numVal c] w fun e w' => e = .returned (.tuple #[]) ∧ Wr w' b base (bs ++ (1 :: leB 8 (fBits c))) ∧ Lays base w w' := by
  have HC := Lib.hid hc; have H := Lib.hid h; clear hc h
  go_enter Tryz.func36, Tryz.ntmps36
  go_wp2_with fail
  refine (taken_any c HC.out _).mono ?_
  rintro e w1 ⟨rfl, hk⟩
  have k1 := hk.at (h_new w (.cells #[.int .i64 1, .float .f64 c, .string ⟨#[]⟩] 47)) (by simp)
  have hk0 : Keeps [] w w1 := (Keeps.alloc [] w _).trans hk (by simp)
  have K1 := Lib.hid k1; have HK := Lib.hid hk0; clear k1 hk hk0
  go_wp2_with ((with_reducible show wpList _ _ _ (Oper.mk none (.store 47 _ _) _ _ _ _ :: _) _ _); refine stT 47 w.heap.size 0 _ K1.out rfl (.agg #[.int .i64 1, .float .f64 c, .string ⟨#[]⟩]) rfl (by kernel_rfl) (by simp [Value.cells]) (by simp [Value.cells, Value.oneCell']) ?_)
  intro w2 hs2
  have k2 := hs2.row
  have hk2 : Keeps [] w w2 := HK.out.trans hs2.keeps (by simp)
  have c0 := cell_of_heap k2 0
  have c1 := cell_of_heap k2 1
  simp at c0 c1
  have hsz := hk2.size
  have HW2 := Lib.hid (H.out.keep hk2); have HK2 := Lib.hid hk2; have K2 := Lib.hid k2
  clear hs2 hk2 k2
  go_wp2_with fail
  refine (byte_any HW2.out hb (by omega) (by omega) 1).mono ?_
  rintro e w3 ⟨rfl, hW3, hB3⟩
  have k3 := hB3.block _ _ K2.out (.inr (by intro c f; simp))
  have d0 := cell_of_heap k3 0
  have d1 := cell_of_heap k3 1
  simp at d0 d1
  have hsz3 := hB3.size
  have HW3 := Lib.hid hW3; have HB3 := Lib.hid ((Lays.of_keeps HK2.out).trans hB3)
  clear hW3 hB3 k3 c0 c1
  go_wp2_with fail
  refine (wfloat_any HW3.out hb (by omega) (by simp; omega) c hn).mono ?_
  rintro e w4 ⟨rfl, hW4, hB4⟩
  have HW4 := Lib.hid hW4; have HB4 := Lib.hid (HB3.out.trans hB4)
  clear hW4 hB4
  go_wp2_with fail
  go_end0
  refine ⟨rfl, ?_, HB4.out⟩
  have := HW4.out
  simpa [List.append_assoc] using this

/-! ### the document's way -/
set_option maxRecDepth 100000 in
theorem signbit_zero (w : World) : Calls Tryz.prog 55 #[.float .f64 0] w fun e w' => e = .returned (.bool false) ∧ w' = w := by
  have htb := tobits_run
  go_enter Tryz.func55, Tryz.ntmps55
  go_wp2_with fail
  go_ret
  exact ⟨rfl, rfl⟩

set_option maxRecDepth 100000 in
set_option maxHeartbeats 1000000 in
theorem rright_any (c : Nat) (hc : Cln c) (w : World) : Calls Tryz.prog 48 #[numVal c] w fun e w' => e = .returned (.bool true) ∧ Keeps [] w w' := by
  rcases hc with rfl | hc
  · have h0 : (FloatKind.f64.format.order 0 0 == some Ordering.eq) = true := by kernel_rfl
    go_enter Tryz.func48, Tryz.ntmps48
    go_wp2_with fail
    refine (signbit_zero _).mono ?_
    rintro e w' ⟨rfl, rfl⟩
    go_wp2_with fail
    go_ret
    exact ⟨rfl, Keeps.alloc [] w _⟩
  · have hc' : (FloatKind.f64.format.order c 0 == some Ordering.eq) = false := by
      rw [bne] at hc
      simpa using hc
    clear hc
    go_enter Tryz.func48, Tryz.ntmps48
    go_wp2_with fail
    go_ret
    exact ⟨rfl, Keeps.alloc [] w _⟩

set_option maxRecDepth 100000 in
set_option maxHeartbeats 1000000 in
theorem rtaken_any (c : Nat) (hc : Cln c) (w : World) : Calls Tryz.prog 44 #[numVal c] w fun e w' => e = .returned (numVal c) ∧ Keeps [] w w' := by
  have HC := Lib.hid hc; clear hc
  go_enter Tryz.func44, Tryz.ntmps44
  go_wp2_with fail
  refine (rright_any c HC.out _).mono ?_
  rintro e w' ⟨rfl, hk⟩
  have k1 := hk.at (h_alloc (h_new w (.cells #[.int .i64 1, .float .f64 c, .string ⟨#[]⟩] 47))) (by simp)
  have k2 := hk.at (h_new (w.alloc (.cells #[.int .i64 1, .float .f64 c, .string ⟨#[]⟩] 47)) (.cells #[.int .i64 0, .float .f64 0, .string ⟨#[]⟩] 47)) (by simp)
  simp only [World.size_alloc] at k2
  have a0 := cell_of_heap k1 0
  have a1 := cell_of_heap k1 1
  have a2 := cell_of_heap k1 2
  simp at a0 a1 a2
  have hk0 : Keeps [] w w' := ((Keeps.alloc [] w _).trans (Keeps.alloc [] _ _) (by simp)).trans hk (by simp)
  have K2 := Lib.hid k2; have HK := Lib.hid hk0; clear k1 k2 hk hk0
  go_wp2_with ((with_reducible show wpList _ _ _ (Oper.mk none (.store 47 _ _) _ _ _ _ :: _) _ _); refine stT 47 (w.heap.size + 1) 0 _ K2.out rfl (.agg #[.int .i64 1, .float .f64 c, .string ⟨#[]⟩]) rfl (by kernel_rfl) (by simp [Value.cells]) (by simp [Value.cells, Value.oneCell']) ?_)
  intro w2 hs2
  have c0 := cell_of_heap hs2.row 0
  have c1 := cell_of_heap hs2.row 1
  have c2 := cell_of_heap hs2.row 2
  simp at c0 c1 c2
  have hk2 : Keeps [] w w2 := HK.out.trans hs2.keeps (by simp)
  clear hs2
  go_wp2_with fail
  exact bodyPost_ret (v := numVal c) (by simp [numVal, results, Tryz.results44, go_sem, c0, c1, c2]) rfl ⟨rfl, hk2⟩
end Go.Proofs.YthanhccpmonemaaGreatDoor
