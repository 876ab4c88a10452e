/- The small functions, walked: New, Expire, Len, Get, num, Num, clean. -/
import Derived.Test.YthanhccpmonemaaGreatDoorRows
import Derived.Test.YthanhccpmonemaaGreatDoorPut
import Derived.WalkKit
import Derived.WalkSpells
import Derived.WalkLawsBesides
namespace Go.Proofs.YthanhccpmonemaaGreatDoor
open Go.RowKit

set_option maxHeartbeats 400000 in
theorem new_any (w : World) :
    Calls Tryz.prog 4 #[] w fun e w' => e = .returned (.pointer (some ⟨w.heap.size + 1, 0, none⟩)) ∧ w' = (w.alloc (.map #[] 0)).alloc (.cells #[.int .u64 0, .map (some w.heap.size), .pointer none, .pointer none] 44) := by
  have hmm := @run_makeMap Tryz.prog
  go_enter Tryz.func4, Tryz.ntmps4
  go_wp2
  go_ret
  exact ⟨rfl, rfl⟩

theorem new_tab (w : World) : Calls Tryz.prog 4 #[] w fun e w' => ∃ t fp, e = .returned (.pointer (some ⟨t, 0, none⟩)) ∧ Tab w' t fp 0 [] ∧ Keeps [] w w' ∧ ∀ k ∈ fp, w.heap.size ≤ k := by
  refine (new_any w).mono ?_
  rintro e w' ⟨rfl, rfl⟩
  refine ⟨w.heap.size + 1, [w.heap.size + 1, w.heap.size], rfl, ⟨w.heap.size, [], [], 0, ⟨?_, ?_, trivial, ?_, ?_, ?_, rfl, ?_⟩, rfl, rfl⟩, (Keeps.alloc [] w _).trans (Keeps.alloc [] _ _) (by simp), by simp⟩
  · have := h_new (w.alloc (.map #[] 0)) (.cells #[.int .u64 0, .map (some w.heap.size), .pointer none, .pointer none] 44)
    simp only [World.size_alloc] at this
    exact this
  · exact h_alloc (h_new w _)
  · simp
  · simp
  · simp [skeys]
  · intro s; rfl

set_option maxHeartbeats 400000 in
theorem expire_any (w : World) (t m : Nat) (x0 x2 x3 : Value) (y : Int) (h0 : w.heap[t]? = some (.cells #[x0, .map (some m), x2, x3] 44 (0, 0))) :
    Calls Tryz.prog 21 #[.pointer (some ⟨t, 0, none⟩), .int .u64 y] w fun e w' => e = .returned (.tuple #[]) ∧ w' = w.setCell ⟨t, 0, none⟩ (.int .u64 y) := by
  have c0 := cell_of_heap h0 0
  have f0 := frozen_of_heap h0 0
  simp at c0
  have H0 := Lib.hid h0; clear h0
  go_enter Tryz.func21, Tryz.ntmps21
  go_wp2
  go_end0
  exact ⟨rfl, rfl⟩

set_option maxHeartbeats 400000 in
theorem len_any (w : World) (t m : Nat) (x0 x2 x3 : Value) (l : List SE) (clock : Nat) (h0 : w.heap[t]? = some (.cells #[x0, .map (some m), x2, x3] 44 (0, 0)))
    (h1 : w.heap[m]? = some (.map (sents l) clock)) :
    Calls Tryz.prog 7 #[.pointer (some ⟨t, 0, none⟩)] w fun e w' => e = .returned (.int .i64 l.length) ∧ w' = w := by
  have c1 := cell_of_heap h0 1
  simp at c1
  have hr := run_len_s (P := Tryz.prog) Tryz.underlying41 3 h1
  simp only [goInt] at hr
  have H0 := Lib.hid h0; have H1 := Lib.hid h1; clear h0 h1
  go_enter Tryz.func7, Tryz.ntmps7
  go_wp2
  go_ret
  exact ⟨rfl, rfl⟩

/-- What Get hands back. -/
def gotten (o : Option Ent) : Value :=
  match o with
  | some e => .tuple #[.agg #[.int .i64 e.kd, .float .f64 e.n, .string e.s], .bool true]
  | none => .tuple #[.agg #[.int .i64 0, .float .f64 0, .string ⟨#[]⟩], .bool false]

set_option maxHeartbeats 400000 in
theorem get_none (w : World) (t m : Nat) (x0 x2 x3 : Value) (key : ByteArray) (l : List SE) (clock : Nat) (h0 : w.heap[t]? = some (.cells #[x0, .map (some m), x2, x3] 44 (0, 0)))
    (h1 : w.heap[m]? = some (.map (sents l) clock)) (hn : sval key l = none) :
    Calls Tryz.prog 15 #[.pointer (some ⟨t, 0, none⟩), .string key] w fun e w' => e = .returned (gotten none) ∧ Keeps [] w w' := by
  have c1 := cell_of_heap h0 1
  simp at c1
  have ht := (Array.getElem?_eq_some_iff.1 h0).1
  have H0 := Lib.hid h0; have H1 := Lib.hid h1; clear h0 h1
  have HN := Lib.hid hn; clear hn
  go_enter Tryz.func15, Tryz.ntmps15
  go_wp2_with (first | (at_lookup; refine wpList_lookup_s rfl _ _ rfl Tryz.underlying41 Tryz.underlying9 (.pointer none) zero57 m clock l key rfl rfl (h_alloc H1.out) ?_; rw [HN.out]) | ((with_reducible show wpList _ _ _ (Oper.mk none (.store 47 _ _) _ _ _ _ :: _) _ _); refine stT 47 w.heap.size 0 _ (h_new _ _) rfl (.agg #[.int .i64 0, .float .f64 0, .string ⟨#[]⟩]) rfl (by kernel_rfl) (by simp [Value.cells]) (by simp [Value.cells, Value.oneCell']) ?_))
  intro w2 hs2
  have c0 := cell_of_heap hs2.row 0
  have c1 := cell_of_heap hs2.row 1
  have c2 := cell_of_heap hs2.row 2
  simp at c0 c1 c2
  have hk : Keeps [] w w2 := (Keeps.alloc [] w _).trans hs2.keeps (by simp)
  clear hs2
  go_wp2_with fail
  exact bodyPost_ret (v := gotten none) (by simp [gotten, results, Tryz.results15, go_sem, c0, c1, c2]) rfl ⟨rfl, hk⟩

set_option maxHeartbeats 400000 in
theorem get_some (w : World) (t m : Nat) (x0 x2 x3 : Value) (key : ByteArray) (l : List SE) (clock : Nat) (h0 : w.heap[t]? = some (.cells #[x0, .map (some m), x2, x3] 44 (0, 0)))
    (h1 : w.heap[m]? = some (.map (sents l) clock)) (en : Ent) (pv nx : Option Nat) (hn : sval key l = some (ptr (some en.b))) (h2 : w.heap[en.b]? = some (.cells (en.cells pv nx) 64 (0, 0))) :
    Calls Tryz.prog 15 #[.pointer (some ⟨t, 0, none⟩), .string key] w fun e w' => e = .returned (gotten (some en)) ∧ Keeps [] w w' := by
  obtain ⟨eb, lkey, lkd, ln, ls, lt⟩ := en
  simp only [Ent.cells] at hn h2
  have c1 := cell_of_heap h0 1
  have d1 := cell_of_heap h2 1
  have d2 := cell_of_heap h2 2
  have d3 := cell_of_heap h2 3
  simp at c1 d1 d2 d3
  have ht := (Array.getElem?_eq_some_iff.1 h0).1
  have hl := (Array.getElem?_eq_some_iff.1 h2).1
  have H0 := Lib.hid h0; have H1 := Lib.hid h1; have H2 := Lib.hid h2; clear h0 h1 h2
  have HN := Lib.hid hn; clear hn
  go_enter Tryz.func15, Tryz.ntmps15
  go_wp2_with (first | (at_lookup; refine wpList_lookup_s rfl _ _ rfl Tryz.underlying41 Tryz.underlying9 (.pointer none) zero57 m clock l key rfl rfl (h_alloc H1.out) ?_; rw [HN.out]; simp only [Option.getD_some, Option.isSome_some, ptr_some]) | ((with_reducible show wpList _ _ _ (Oper.mk none (.store 47 _ _) _ _ _ _ :: _) _ _); refine stT 47 w.heap.size 0 _ (h_new _ _) rfl (.agg #[.int .i64 lkd, .float .f64 ln, .string ls]) rfl (by kernel_rfl) (by simp [Value.cells]) (by simp [Value.cells, Value.oneCell']) ?_))
  intro w2 hs2
  have c0 := cell_of_heap hs2.row 0
  have c1 := cell_of_heap hs2.row 1
  have c2 := cell_of_heap hs2.row 2
  simp at c0 c1 c2
  have hk : Keeps [] w w2 := (Keeps.alloc [] w _).trans hs2.keeps (by simp)
  clear hs2
  go_wp2_with fail
  exact bodyPost_ret (v := gotten (some ⟨eb, lkey, lkd, ln, ls, lt⟩)) (by simp [gotten, results, Tryz.results15, go_sem, c0, c1, c2]) rfl ⟨rfl, hk⟩

/-- -0 is 0. -/
def zClean (n : Nat) : Nat := if (FloatKind.f64.format.order n 0 == some Ordering.eq) = true then 0 else n
theorem clean_any (n : Nat) (w : World) : Calls Tryz.prog 40 #[.float .f64 n] w fun e w' => e = .returned (.float .f64 (zClean n)) ∧ w' = w := by
  cases h : (FloatKind.f64.format.order n 0 == some Ordering.eq)
  · have hz : zClean n = n := by unfold zClean; rw [h]; rfl
    have HZ := Lib.hid hz; clear hz
    go_enter Tryz.func40, Tryz.ntmps40
    go_wp2
    go_ret
    exact ⟨by rw [HZ.out]; rfl, rfl⟩
  · have hz : zClean n = 0 := by unfold zClean; rw [h]; rfl
    have HZ := Lib.hid hz; clear hz
    go_enter Tryz.func40, Tryz.ntmps40
    go_wp2
    go_ret
    exact ⟨by rw [HZ.out]; rfl, rfl⟩

/-- The value that num makes. -/
abbrev numV (n : Nat) : Value := .agg #[.int .i64 1, .float .f64 (zClean n), .string ⟨#[]⟩]
set_option maxHeartbeats 400000 in
theorem Num_any (n : Nat) (w : World) : Calls Tryz.prog 31 #[.float .f64 n] w fun e w' => e = .returned (numV n) ∧ Keeps [] w w' := by
  go_enter Tryz.func31, Tryz.ntmps31
  go_wp2_with (first | (go_at_call 40; refine (clean_any n _).mono ?_; rintro e w' ⟨rfl, rfl⟩) | ((with_reducible show wpList _ _ _ (Oper.mk none (.store 47 _ _) _ _ _ _ :: _) _ _); refine stT 47 w.heap.size 0 _ (h_new _ _) rfl (.agg #[.int .i64 1, .float .f64 (zClean n), .string ⟨#[]⟩]) rfl (by kernel_rfl) (by simp [Value.cells]) (by simp [Value.cells, Value.oneCell']) ?_))
  intro w2 hs2
  have c0 := cell_of_heap hs2.row 0
  have c1 := cell_of_heap hs2.row 1
  have c2 := cell_of_heap hs2.row 2
  simp at c0 c1 c2
  have hk : Keeps [] w w2 := (Keeps.alloc [] w _).trans hs2.keeps (by simp)
  clear hs2
  go_wp2_with fail
  exact bodyPost_ret (v := numV n) (by simp [numV, results, Tryz.results31, go_sem, c0, c1, c2]) rfl ⟨rfl, hk⟩
set_option maxHeartbeats 400000 in
theorem num_any (n : Nat) (w : World) : Calls Tryz.prog 12 #[.float .f64 n] w fun e w' => e = .returned (numV n) ∧ Keeps [] w w' := by
  go_enter Tryz.func12, Tryz.ntmps12
  go_wp2_with (first | (go_at_call 31; refine (Num_any n _).mono ?_; rintro e w' ⟨rfl, hk1⟩) | ((with_reducible show wpList _ _ _ (Oper.mk none (.store 47 _ _) _ _ _ _ :: _) _ _); refine stT 47 w.heap.size 0 _ (Keeps.at (by assumption) (h_new _ _) (by simp)) rfl (.agg #[.int .i64 1, .float .f64 (zClean n), .string ⟨#[]⟩]) rfl (by kernel_rfl) (by simp [Value.cells]) (by simp [Value.cells, Value.oneCell']) ?_))
  intro w2 hs2
  have c0 := cell_of_heap hs2.row 0
  have c1 := cell_of_heap hs2.row 1
  have c2 := cell_of_heap hs2.row 2
  simp at c0 c1 c2
  have hk : Keeps [] w w2 := ((Keeps.alloc [] w _).trans hk1 (by simp)).trans hs2.keeps (by simp)
  clear hs2
  go_wp2_with fail
  exact bodyPost_ret (v := numV n) (by simp [numV, results, Tryz.results12, go_sem, c0, c1, c2]) rfl ⟨rfl, hk⟩
end Go.Proofs.YthanhccpmonemaaGreatDoor
