/- Same, the document's Get, Pick, Clear, walked. -/
import Derived.Test.YthanhccpmonemaaGreatDoorLayE
namespace Go.Proofs.YthanhccpmonemaaGreatDoor
open Go.RowKit

set_option maxRecDepth 100000 in
set_option maxHeartbeats 1000000 in
theorem same_any (kd : Int) (n : Nat) (s : ByteArray) (w : World) : Calls Tryz.prog 18 #[.agg #[.int .i64 kd, .float .f64 n, .string s], .agg #[.int .i64 kd, .float .f64 n, .string s]] w fun e w' => e = .returned (.bool true) ∧ Keeps [] w w' := by
  have hs : (s.toList == s.toList) = true := by simp
  cases hq : (FloatKind.f64.format.order n n == some Ordering.eq)
  · have hq' : (FloatKind.f64.format.order n n != some Ordering.eq) = true := by rw [bne, hq]; rfl
    go_enter Tryz.func18, Tryz.ntmps18
    go_wp2_with fail
    go_ret
    exact ⟨rfl, (Keeps.alloc [] w _).trans (Keeps.alloc [] _ _) (by simp)⟩
  · go_enter Tryz.func18, Tryz.ntmps18
    go_wp2_with fail
    go_ret
    exact ⟨rfl, (Keeps.alloc [] w _).trans (Keeps.alloc [] _ _) (by simp)⟩

/-- Pick of thirteen: between 0 and 12. -/
def pick13 (n : Int) : Int := if n.tmod 13 < 0 then n.tmod 13 + 13 else n.tmod 13
theorem pick13_bd (n : Int) : 0 ≤ pick13 n ∧ pick13 n ≤ 12 := by
  have h1 := Int.tmod_lt_of_pos n (show (0 : Int) < 13 by decide)
  have h2 := Int.lt_tmod_of_pos n (show (0 : Int) < 13 by decide)
  unfold pick13
  split <;> omega

set_option maxRecDepth 100000 in
set_option maxHeartbeats 1000000 in
theorem pick_any (n : Int) (hn : -9223372036854775808 ≤ n ∧ n ≤ 9223372036854775807) (w : World) : Calls Tryz.prog 14 #[.int .i64 n, .int .i64 13] w fun e w' => e = .returned (.int .i64 (pick13 n)) ∧ w' = w := by
  obtain ⟨h0, h1⟩ := hn
  have hm1 := Int.tmod_lt_of_pos n (show (0 : Int) < 13 by decide)
  have hm2 := Int.lt_tmod_of_pos n (show (0 : Int) < 13 by decide)
  by_cases hneg : n.tmod 13 < 0
  · have hp : pick13 n = n.tmod 13 + 13 := by unfold pick13; rw [if_pos hneg]
    have HP := Lib.hid hp; clear hp
    go_enter Tryz.func14, Tryz.ntmps14
    go_wp2_with fail
    go_ret
    exact ⟨by rw [HP.out]; go_num, rfl⟩
  · have hp : pick13 n = n.tmod 13 := by unfold pick13; rw [if_neg hneg]
    have HP := Lib.hid hp; clear hp
    go_enter Tryz.func14, Tryz.ntmps14
    go_wp2_with fail
    go_ret
    exact ⟨by rw [HP.out]; rfl, rfl⟩

set_option maxHeartbeats 1000000 in
theorem clear_any (w : World) (t m : Nat) (x0 x2 x3 : Value) (h0 : w.heap[t]? = some (.cells #[x0, .map (some m), x2, x3] 44 (0, 0))) :
    Calls Tryz.prog 20 #[.pointer (some ⟨t, 0, none⟩)] w fun e w' => e = .returned (.tuple #[]) ∧
      w' = (((w.setCell ⟨t, 1, none⟩ (.map (some w.heap.size))).setCell ⟨t, 2, none⟩ (.pointer none)).setCell ⟨t, 3, none⟩ (.pointer none)).alloc (.map #[] 0) := by
  have hmm := @run_makeMap Tryz.prog
  have c1 := cell_of_heap h0 1
  have c2 := cell_of_heap h0 2
  have c3 := cell_of_heap h0 3
  have f1 := frozen_of_heap h0 1
  have f2 := frozen_of_heap h0 2
  have f3 := frozen_of_heap h0 3
  simp at c1 c2 c3
  have ht := h_lt h0
  have H0 := Lib.hid h0; clear h0
  go_enter Tryz.func20, Tryz.ntmps20
  go_wp2_with fail
  go_end0
  exact ⟨rfl, rfl⟩

theorem clear_tab {w : World} {t : Nat} {fp : List Nat} {ttl : Int} {vs : List KV} (h : Tab w t fp ttl vs) :
    Calls Tryz.prog 20 #[.pointer (some ⟨t, 0, none⟩)] w fun e w' => e = .returned (.tuple #[]) ∧ ∃ fp', Tab w' t fp' ttl [] ∧ Keeps fp w w' ∧ Grew w fp fp' := by
  obtain ⟨m, es, l, clock, hr, rfl, rfl⟩ := h
  refine (clear_any w t m _ _ _ hr.tab).mono ?_
  rintro e w' ⟨rfl, rfl⟩
  have ht := h_lt hr.tab
  have hsz : (((w.setCell ⟨t, 1, none⟩ (.map (some w.heap.size))).setCell ⟨t, 2, none⟩ (.pointer none)).setCell ⟨t, 3, none⟩ (.pointer none)).heap.size = w.heap.size := by simp [World.setCell]
  have hk : Keeps [t] w ((((w.setCell ⟨t, 1, none⟩ (.map (some w.heap.size))).setCell ⟨t, 2, none⟩ (.pointer none)).setCell ⟨t, 3, none⟩ (.pointer none)).alloc (.map #[] 0)) :=
    (((Keeps.setCell [t] w _ _ (by simp)).trans (Keeps.setCell [t] _ _ _ (by simp)) (by simp)).trans (Keeps.setCell [t] _ _ _ (by simp)) (by simp)).trans (Keeps.alloc [t] _ _) (by simp)
  refine ⟨rfl, [t, w.heap.size], ⟨w.heap.size, [], [], 0, ⟨?_, ?_, trivial, ?_, ?_, ?_, rfl, ?_⟩, rfl, rfl⟩, hk.weaken (by simp), ?_⟩
  · have h1 := h_set_eq (i := 3) (u := .pointer none) (h_set_eq (i := 2) (u := .pointer none) (h_set_eq (i := 1) (u := .map (some w.heap.size)) hr.tab))
    have h2 := h_alloc (o := .map #[] 0) h1
    simpa [nextB, lastB, ptr] using h2
  · have := h_new (((w.setCell ⟨t, 1, none⟩ (.map (some w.heap.size))).setCell ⟨t, 2, none⟩ (.pointer none)).setCell ⟨t, 3, none⟩ (.pointer none)) (.map #[] 0)
    rw [hsz] at this
    exact this
  · simp; omega
  · simp
  · simp [skeys]
  · intro s; rfl
  · intro k hk
    simp at hk
    rcases hk with rfl | rfl
    · exact .inl (by simp)
    · exact .inr (Nat.le_refl _)
end Go.Proofs.YthanhccpmonemaaGreatDoor
