/- table.Put, walked: behind the last entry; onto an entry that is there. -/
import Derived.Test.YthanhccpmonemaaGreatDoorPut
namespace Go.Proofs.YthanhccpmonemaaGreatDoor
open Go.RowKit

/-- Behind a Put of a new key into a table that holds some: the last entry le now points to the new one eb. -/
def PutMore (w : World) (t m : Nat) (ttl : Int) (fb : Nat) (le : Ent) (pv : Option Nat) (key : ByteArray) (kd : Int) (n : Nat) (s : ByteArray) (tm : Int) (l : List SE) (clock : Nat) (e : Ending) (w' : World) : Prop :=
  e = .returned (.tuple #[]) ∧ ∃ eb clock', w.heap.size ≤ eb ∧
    w'.heap[t]? = some (.cells #[.int .u64 ttl, .map (some m), ptr (some fb), ptr (some eb)] 44 (0, 0)) ∧
    w'.heap[m]? = some (.map (sents (sput key (ptr (some eb)) clock l)) clock') ∧
    w'.heap[eb]? = some (.cells (Ent.cells ⟨eb, key, kd, n, s, tm⟩ (some le.b) none) 64 (0, 0)) ∧
    w'.heap[le.b]? = some (.cells (le.cells pv (some eb)) 64 (0, 0)) ∧ Keeps [t, m, le.b] w w'

set_option maxHeartbeats 400000 in
theorem put_more (w : World) (t m : Nat) (ttl : Int) (key s : ByteArray) (kd : Int) (n : Nat) (tm : Int) (l : List SE) (clock : Nat) (fb : Nat) (le : Ent) (pv : Option Nat)
  (h0 : w.heap[t]? = some (.cells #[.int .u64 ttl, .map (some m), .pointer (some ⟨fb, 0, none⟩), .pointer (some ⟨le.b, 0, none⟩)] 44 (0, 0)))
  (h2 : w.heap[le.b]? = some (.cells (le.cells pv none) 64 (0, 0)))
  (h1 : w.heap[m]? = some (.map (sents l) clock)) (hn : sval key l = none) (htm : t ≠ m) (htl : t ≠ le.b) (hml : m ≠ le.b) :
    Calls Tryz.prog 11 #[.pointer (some ⟨t, 0, none⟩), .string key, .agg #[.int .i64 kd, .float .f64 n, .string s], .int .u64 tm] w (PutMore w t m ttl fb le pv key kd n s tm l clock) := by
  obtain ⟨lb, lkey, lkd, ln, ls, lt⟩ := le
  simp only [Ent.cells] at h0 h2 htl hml
  have c0 := cell_of_heap h0 0
  have c1 := cell_of_heap h0 1
  have c2 := cell_of_heap h0 2
  have c3 := cell_of_heap h0 3
  simp at c0 c1 c2 c3
  have ht := (Array.getElem?_eq_some_iff.1 h0).1
  have hm := (Array.getElem?_eq_some_iff.1 h1).1
  have hl := (Array.getElem?_eq_some_iff.1 h2).1
  have H0 := Lib.hid h0; have H1 := Lib.hid h1; have H2 := Lib.hid h2; clear h0 h1 h2
  have HN := Lib.hid hn; clear hn
  go_enter Tryz.func11, Tryz.ntmps11
  go_wp2_with (first | (at_lookup; refine wpList_lookup_s rfl _ _ rfl Tryz.underlying41 Tryz.underlying9 (.pointer none) zero57 m clock l key rfl rfl (h_alloc H1.out) ?_; rw [HN.out]) | (at_mapUpdate; refine wpList_mapUpdate_s rfl _ _ _ rfl Tryz.underlying41 Tryz.underlying9 m clock l key rfl rfl _ rfl (h_alloc (h_alloc H1.out)) ?_))
  intro w1 hs
  have k0 := hs.at (h_alloc (h_alloc H0.out)) htm
  obtain ⟨clock', k1⟩ := hs.map
  have k2 := hs.at (h_alloc (h_new _ _)) (by omega)
  have k3 := hs.at (h_new (w.alloc _) _) (by simp; omega)
  have k4 := hs.at (h_alloc (h_alloc H2.out)) (Ne.symm hml)
  have kk := ((Keeps.alloc [t, m, lb] w _).trans (Keeps.alloc [t, m, lb] _ _) (by simp)).trans hs.keeps (by simp)
  have hsz := hs.size
  simp at k3 hsz
  clear hs c0 c1 c2 c3
  generalize hq : w.heap.size = q at *
  have c0 := cell_of_heap k0 0
  have c1 := cell_of_heap k0 1
  have c2 := cell_of_heap k0 2
  have c3 := cell_of_heap k0 3
  have f2 := frozen_of_heap k0 2
  have f3 := frozen_of_heap k0 3
  have b0 := cell_of_heap k2 0
  have b1 := cell_of_heap k2 1
  have b2 := cell_of_heap k2 2
  have d6 := cell_of_heap k4 6
  have g6 := frozen_of_heap k4 6
  simp at c0 c1 c2 c3 b0 b1 b2 d6
  have K0 := Lib.hid k0; have K1 := Lib.hid k1; have K2 := Lib.hid k2; have K3 := Lib.hid k3; have K4 := Lib.hid k4; have KK := Lib.hid kk; have HQ := Lib.hid hq; clear k0 k1 k2 k3 k4 kk hq
  have n1 : t ≠ q := by omega
  have n2 : t ≠ q + 1 := by omega
  have n3 : q + 1 ≠ t := by omega
  have n4 : q ≠ t := by omega
  have n5 : m ≠ q + 1 := by omega
  have n6 : lb ≠ q + 1 := by omega
  have n7 : q + 1 ≠ lb := by omega
  have n8 : q ≠ lb := by omega
  have n9 : lb ≠ t := by omega
  go_wp2_with ((with_reducible show wpList _ _ _ (Oper.mk none (.store 47 _ _) _ _ _ _ :: _) _ _); refine st37 (q + 1) 1 _ (h_set_ne n3 (h_set_ne n7 K3.out)) rfl (.agg #[.int .i64 kd, .float .f64 n, .string s]) rfl (by kernel_rfl) (by simp [Value.cells]) (by simp [Value.cells, Value.oneCell']) ?_)
  intro w2 hs2
  have r0 := hs2.at (h_set_eq (i := 3) (u := .pointer (some ⟨q + 1, 0, none⟩)) (h_set_ne (u := .pointer (some ⟨q + 1, 0, none⟩)) (a := ⟨lb, 6, none⟩) htl K0.out)) n2
  have r1 := hs2.at (h_set_ne (a := ⟨t, 3, none⟩) (Ne.symm htm) (h_set_ne (a := ⟨lb, 6, none⟩) hml K1.out)) n5
  have r4 := hs2.at (h_set_ne (a := ⟨t, 3, none⟩) n9 (h_set_eq (i := 6) (u := .pointer (some ⟨q + 1, 0, none⟩)) K4.out)) n6
  have r3 := hs2.row
  have rk := (((KK.out.trans (Keeps.setCell [t, m, lb] _ _ _ (by simp)) (by simp)).trans (Keeps.setCell [t, m, lb] _ _ _ (by simp)) (by simp)).trans hs2.keeps (by have := HQ.out; simp; omega))
  simp at r0 r1 r3 r4
  clear hs2
  have e4 := cell_of_heap r3 4
  have g4 := frozen_of_heap r3 4
  simp at e4
  have R0 := Lib.hid r0; have R1 := Lib.hid r1; have R3 := Lib.hid r3; have R4 := Lib.hid r4; have RK := Lib.hid rk; clear r0 r1 r3 r4 rk
  go_wp2_with fail
  go_end0
  refine ⟨rfl, q + 1, clock', by have := HQ.out; omega, h_set_ne n2 R0.out, h_set_ne n5 R1.out, ?_, ?_, ?_⟩
  · have := h_set_eq (i := 4) (u := .int .u64 tm) R3.out
    simpa [Ent.cells] using this
  · have := h_set_ne (a := ⟨q + 1, 4, none⟩) (u := .int .u64 tm) n6 R4.out
    simpa [Ent.cells] using this
  · exact RK.out.trans (Keeps.setCell [q + 1] _ _ _ (by simp)) (by have := HQ.out; simp; omega)

/-- Behind a Put of a key that is there: its entry has the new value and time. -/
def PutOld (w : World) (en : Ent) (pv nx : Option Nat) (kd : Int) (n : Nat) (s : ByteArray) (tm : Int) (e : Ending) (w' : World) : Prop :=
  e = .returned (.tuple #[]) ∧ w'.heap[en.b]? = some (.cells (Ent.cells ⟨en.b, en.key, kd, n, s, tm⟩ pv nx) 64 (0, 0)) ∧ Keeps [en.b] w w'

set_option maxHeartbeats 400000 in
theorem put_old (w : World) (t m : Nat) (ttl : Int) (key s : ByteArray) (kd : Int) (n : Nat) (tm : Int) (l : List SE) (clock : Nat) (fb lb : Option Nat) (en : Ent) (pv nx : Option Nat)
  (h0 : w.heap[t]? = some (.cells #[.int .u64 ttl, .map (some m), ptr fb, ptr lb] 44 (0, 0)))
  (h2 : w.heap[en.b]? = some (.cells (en.cells pv nx) 64 (0, 0)))
  (h1 : w.heap[m]? = some (.map (sents l) clock)) (hn : sval key l = some (ptr (some en.b))) :
    Calls Tryz.prog 11 #[.pointer (some ⟨t, 0, none⟩), .string key, .agg #[.int .i64 kd, .float .f64 n, .string s], .int .u64 tm] w (PutOld w en pv nx kd n s tm) := by
  obtain ⟨eb, lkey, lkd, ln, ls, lt⟩ := en
  simp only [Ent.cells] at h0 h2 hn
  have c1 := cell_of_heap h0 1
  simp at c1
  have ht := (Array.getElem?_eq_some_iff.1 h0).1
  have hm := (Array.getElem?_eq_some_iff.1 h1).1
  have hl := (Array.getElem?_eq_some_iff.1 h2).1
  have H0 := Lib.hid h0; have H1 := Lib.hid h1; have H2 := Lib.hid h2; clear h0 h1 h2
  have HN := Lib.hid hn; clear hn
  go_enter Tryz.func11, Tryz.ntmps11
  go_wp2_with (first | (at_lookup; refine wpList_lookup_s rfl _ _ rfl Tryz.underlying41 Tryz.underlying9 (.pointer none) zero57 m clock l key rfl rfl (h_alloc H1.out) ?_; rw [HN.out]; simp only [Option.getD_some, Option.isSome_some, ptr_some]) | ((with_reducible show wpList _ _ _ (Oper.mk none (.store 47 _ _) _ _ _ _ :: _) _ _); refine st37 eb 1 _ (h_alloc H2.out) rfl (.agg #[.int .i64 kd, .float .f64 n, .string s]) rfl (by kernel_rfl) (by simp [Value.cells]) (by simp [Value.cells, Value.oneCell']) ?_))
  intro w2 hs2
  have r3 := hs2.row
  have rk := (Keeps.alloc [eb] w _).trans hs2.keeps (by simp)
  clear hs2
  have e4 := cell_of_heap r3 4
  have g4 := frozen_of_heap r3 4
  simp at e4
  have R3 := Lib.hid r3; have RK := Lib.hid rk; clear r3 rk
  go_wp2_with fail
  go_end0
  refine ⟨rfl, ?_, ?_⟩
  · have := h_set_eq (i := 4) (u := .int .u64 tm) R3.out
    simpa [Ent.cells] using this
  · exact RK.out.trans (Keeps.setCell [eb] _ _ _ (by simp)) (by simp)
end Go.Proofs.YthanhccpmonemaaGreatDoor
