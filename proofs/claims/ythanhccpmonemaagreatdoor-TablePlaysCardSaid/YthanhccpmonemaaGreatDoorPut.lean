/- table.Put, walked: into an empty table, behind the last entry, onto an entry. -/
import Derived.Test.YthanhccpmonemaaGreatDoorRows
import Derived.Test.YthanhccpmonemaaGreatDoorRep
import Derived.WalkKit
import Derived.WalkSpells
import Derived.WalkLawsBesides
namespace Go.Proofs.YthanhccpmonemaaGreatDoor
open Go.RowKit

theorem zero57 (w : World) : (zeroValue 42).run Tryz.prog w = .ok (.pointer none) w := by kernel_rfl

theorem st37 {w : World} {ops : Array Oper} {rest : List Oper} {a : Act} {Q : Exit → Act → World → Prop} {ty : TypeId} {pos : String} {after : Array Edge} {tx ty' : Tmp}
    (g off : Nat) (cur : Array Value) (hg : w.heap[g]? = some (.cells cur 64 (0, 0))) (hx : a.eval (.tmp tx) = .pointer (some ⟨g, off, none⟩)) (v : Value) (hy : a.eval (.tmp ty') = v)
    (hi : (Tryz.prog.info? 47).map (·.size) = some v.cells.size) (hs : off + v.cells.size ≤ cur.size) (h1 : ∀ u ∈ v.cells.toList, u.oneCell' = true)
    (hK' : ∀ w', RowStep w w' g 64 (cur.toList.take off ++ v.cells.toList ++ cur.toList.drop (off + v.cells.toList.length)).toArray → wpList Tryz.prog ops Q rest (a.put none undef) w') :
    wpList Tryz.prog ops Q (⟨none, .store 47 (.tmp tx) (.tmp ty'), ty, pos, after, none⟩ :: rest) a w :=
  wpList_store_at rfl 47 _ _ rfl g off 64 cur hg hx v hy hi hs h1 hK'

/-- A value of the type ty stored into a row of the type T. -/
theorem stT {w : World} {ops : Array Oper} {rest : List Oper} {a : Act} {Q : Exit → Act → World → Prop} {ty : TypeId} {pos : String} {after : Array Edge} {tx ty' : Tmp} {vt : TypeId} (T : TypeId)
    (g off : Nat) (cur : Array Value) (hg : w.heap[g]? = some (.cells cur T (0, 0))) (hx : a.eval (.tmp tx) = .pointer (some ⟨g, off, none⟩)) (v : Value) (hy : a.eval (.tmp ty') = v)
    (hi : (Tryz.prog.info? vt).map (·.size) = some v.cells.size) (hs : off + v.cells.size ≤ cur.size) (h1 : ∀ u ∈ v.cells.toList, u.oneCell' = true)
    (hK' : ∀ w', RowStep w w' g T (cur.toList.take off ++ v.cells.toList ++ cur.toList.drop (off + v.cells.toList.length)).toArray → wpList Tryz.prog ops Q rest (a.put none undef) w') :
    wpList Tryz.prog ops Q (⟨none, .store vt (.tmp tx) (.tmp ty'), ty, pos, after, none⟩ :: rest) a w :=
  wpList_store_at rfl vt _ _ rfl g off T cur hg hx v hy hi hs h1 hK'

/-- Behind a Put of a new key: a new entry eb, last in the chain. -/
def PutNew (w : World) (t m : Nat) (ttl : Int) (first : Option Nat) (prev : Option Nat) (fp : List Nat) (key : ByteArray) (kd : Int) (n : Nat) (s : ByteArray) (tm : Int) (l : List SE) (clock : Nat) (e : Ending) (w' : World) : Prop :=
  e = .returned (.tuple #[]) ∧ ∃ eb clock', w.heap.size ≤ eb ∧
    w'.heap[t]? = some (.cells #[.int .u64 ttl, .map (some m), ptr (first.or (some eb)), ptr (some eb)] 44 (0, 0)) ∧
    w'.heap[m]? = some (.map (sents (sput key (ptr (some eb)) clock l)) clock') ∧
    w'.heap[eb]? = some (.cells (Ent.cells ⟨eb, key, kd, n, s, tm⟩ prev none) 64 (0, 0)) ∧ Keeps fp w w'

set_option maxHeartbeats 400000 in
theorem put_first (w : World) (t m : Nat) (ttl : Int) (key s : ByteArray) (kd : Int) (n : Nat) (tm : Int) (l : List SE) (clock : Nat)
  (h0 : w.heap[t]? = some (.cells #[.int .u64 ttl, .map (some m), .pointer none, .pointer none] 44 (0, 0)))
  (h1 : w.heap[m]? = some (.map (sents l) clock)) (hn : sval key l = none) (htm : t ≠ m) :
    Calls Tryz.prog 11 #[.pointer (some ⟨t, 0, none⟩), .string key, .agg #[.int .i64 kd, .float .f64 n, .string s], .int .u64 tm] w (PutNew w t m ttl none none [t, m] key kd n s tm l clock) := by
  have c0 := cell_of_heap h0 0
  have c1 := cell_of_heap h0 1
  have c2 := cell_of_heap h0 2
  have c3 := cell_of_heap h0 3
  simp at c0 c1 c2 c3
  have ht := (Array.getElem?_eq_some_iff.1 h0).1
  have hm := (Array.getElem?_eq_some_iff.1 h1).1
  have H0 := Lib.hid h0; have H1 := Lib.hid h1; clear h0 h1
  have HN := Lib.hid hn; clear hn
  go_enter Tryz.func11, Tryz.ntmps11
  go_wp2_with (first | (at_lookup; refine wpList_lookup_s rfl _ _ rfl Tryz.underlying41 Tryz.underlying9 (.pointer none) zero57 m clock l key rfl rfl (h_alloc H1.out) ?_; rw [HN.out]) | (at_mapUpdate; refine wpList_mapUpdate_s rfl _ _ _ rfl Tryz.underlying41 Tryz.underlying9 m clock l key rfl rfl _ rfl (h_alloc (h_alloc H1.out)) ?_))
  intro w1 hs
  have k0 := hs.at (h_alloc (h_alloc H0.out)) htm
  obtain ⟨clock', k1⟩ := hs.map
  have k2 := hs.at (h_alloc (h_new _ _)) (by omega)
  have k3 := hs.at (h_new (w.alloc _) _) (by simp; omega)
  have kk := ((Keeps.alloc [t, m] w _).trans (Keeps.alloc [t, m] _ _) (by simp)).trans hs.keeps (by simp)
  have hsz := hs.size
  simp at k3 hsz
  clear hs c0 c1 c2 c3
  generalize hq : w.heap.size = q at *
  have c0 := cell_of_heap k0 0
  have c1 := cell_of_heap k0 1
  have c2 := cell_of_heap k0 2
  have c3 := cell_of_heap k0 3
  have f2 := frozen_of_heap k0 2
  have f3 := frozen_of_heap k0 3
  have b0 := cell_of_heap k2 0
  have b1 := cell_of_heap k2 1
  have b2 := cell_of_heap k2 2
  simp at c0 c1 c2 c3 b0 b1 b2
  have K0 := Lib.hid k0; have K1 := Lib.hid k1; have K2 := Lib.hid k2; have K3 := Lib.hid k3; have KK := Lib.hid kk; have HQ := Lib.hid hq; clear k0 k1 k2 k3 kk hq
  have n1 : t ≠ q := by omega
  have n2 : t ≠ q + 1 := by omega
  have n3 : q + 1 ≠ t := by omega
  have n4 : q ≠ t := by omega
  have n5 : m ≠ q + 1 := by omega
  go_wp2_with ((with_reducible show wpList _ _ _ (Oper.mk none (.store 47 _ _) _ _ _ _ :: _) _ _); refine st37 (q + 1) 1 _ (h_set_ne n3 (h_set_ne n3 K3.out)) rfl (.agg #[.int .i64 kd, .float .f64 n, .string s]) rfl (by kernel_rfl) (by simp [Value.cells]) (by simp [Value.cells, Value.oneCell']) ?_)
  intro w2 hs2
  have r0 := hs2.at (h_set_eq (i := 3) (u := .pointer (some ⟨q + 1, 0, none⟩)) (h_set_eq (i := 2) (u := .pointer (some ⟨q + 1, 0, none⟩)) K0.out)) n2
  have r1 := hs2.at (h_set_ne (Ne.symm htm) (h_set_ne (Ne.symm htm) K1.out)) n5
  have r3 := hs2.row
  have rk := (((KK.out.trans (Keeps.setCell [t, m] _ _ _ (by simp)) (by simp)).trans (Keeps.setCell [t, m] _ _ _ (by simp)) (by simp)).trans hs2.keeps (by have := HQ.out; simp; omega))
  simp at r0 r1 r3
  clear hs2
  have e4 := cell_of_heap r3 4
  have g4 := frozen_of_heap r3 4
  simp at e4
  have R0 := Lib.hid r0; have R1 := Lib.hid r1; have R3 := Lib.hid r3; have RK := Lib.hid rk; clear r0 r1 r3 rk
  go_wp2_with fail
  go_end0
  refine ⟨rfl, q + 1, clock', by have := HQ.out; omega, h_set_ne n2 R0.out, h_set_ne n5 R1.out, ?_, ?_⟩
  · have := h_set_eq (i := 4) (u := .int .u64 tm) R3.out
    simpa [Ent.cells] using this
  · exact RK.out.trans (Keeps.setCell [q + 1] _ _ _ (by simp)) (by have := HQ.out; simp; omega)
end Go.Proofs.YthanhccpmonemaaGreatDoor
