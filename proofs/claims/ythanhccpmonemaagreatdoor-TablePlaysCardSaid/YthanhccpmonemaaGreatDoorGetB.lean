/- The document's Get, walked. -/
import Derived.Test.YthanhccpmonemaaGreatDoorGets
namespace Go.Proofs.YthanhccpmonemaaGreatDoor
open Go.RowKit

theorem found_kfind {key : ByteArray} {vs : List KV} {z : Int} (hn : (rKeys vs).Nodup) (h : Found key vs z) : (z = -1 ∧ kfind key vs = none) ∨ ∃ (k : Nat) (v : KV), z = k ∧ vs[k]? = some v ∧ v.key = key ∧ kfind key vs = some v := by
  rcases h with ⟨h1, h2⟩ | ⟨k, v, h1, h2, h3⟩
  · refine .inl ⟨h1, kfind_not ?_⟩
    intro hm
    obtain ⟨v, hv, e⟩ := List.mem_map.1 hm
    exact h2 v hv e
  · refine .inr ⟨k, v, h1, h2, h3, ?_⟩
    rw [← h3]
    exact kfind_mem hn (List.mem_of_getElem? h2)

set_option maxRecDepth 100000 in
set_option maxHeartbeats 1000000 in
theorem rget_any {w : World} {r base : Nat} {ttl : Int} {vs : List KV} (h : RTab w r base ttl vs) (key : ByteArray) (hn : (rKeys vs).Nodup) (hlen : vs.length ≤ 1000000) :
    Calls Tryz.prog 17 #[.pointer (some ⟨r, 0, none⟩), .string key] w fun e w' => e = .returned (gottenV (kfind key vs)) ∧ Keeps [] w w' := by
  have HR := Lib.hid h; have HN := Lib.hid hn; clear h hn
  go_enter Tryz.func17, Tryz.ntmps17
  go_wp2_with fail
  have hR1 := HR.out.keep0 (Keeps.alloc [] w (.cells #[.int .i64 0, .float .f64 0, .string ⟨#[]⟩] 47))
  refine (find_any hR1 key hlen).mono ?_
  rintro e w1 ⟨z, rfl, rfl, hz⟩
  rcases found_kfind HN.out hz with ⟨rfl, hkf⟩ | ⟨k, v, rfl, hv, hvk, hkf⟩
  · have HKF := Lib.hid hkf; clear hkf hz
    go_wp2_with ((with_reducible show wpList _ _ _ (Oper.mk none (.store 47 _ _) _ _ _ _ :: _) _ _); refine stT 47 w.heap.size 0 _ (h_new _ _) rfl (.agg #[.int .i64 0, .float .f64 0, .string ⟨#[]⟩]) rfl (by kernel_rfl) (by simp [Value.cells]) (by simp [Value.cells, Value.oneCell']) ?_)
    intro w2 hs2
    have c0 := cell_of_heap hs2.row 0
    have c1 := cell_of_heap hs2.row 1
    have c2 := cell_of_heap hs2.row 2
    simp at c0 c1 c2
    have hk : Keeps [] w w2 := (Keeps.alloc [] w _).trans hs2.keeps (by simp)
    clear hs2
    go_wp2_with fail
    exact bodyPost_ret (v := gottenV none) (by simp [gottenV, results, Tryz.results17, go_sem, c0, c1, c2]) rfl ⟨by rw [HKF.out], hk⟩
  · have HKF := Lib.hid hkf; clear hkf hz
    obtain ⟨lv, q0, q1⟩ := hR1
    obtain ⟨la, lc, rfl⟩ := slice_shape5 q1
    have d0 := cell_of_heap q0 0
    simp at d0
    have hkl := (List.getElem?_eq_some_iff.1 hv).1
    obtain ⟨g, cap, hs, hg, k0, k1, k2, k3, k4⟩ := row_entry q1 hv
    simp only [Value.slice.injEq, true_and] at hs
    obtain ⟨rfl, rfl⟩ := hs
    clear q0 q1 hv
    go_wp2_with ((with_reducible show wpList _ _ _ (Oper.mk none (.store 47 _ _) _ _ _ _ :: _) _ _); refine stT 47 w.heap.size 0 _ (h_new _ _) rfl (.agg #[.int .i64 v.kd, .float .f64 v.n, .string v.s]) rfl (by kernel_rfl) (by simp [Value.cells]) (by simp [Value.cells, Value.oneCell']) ?_)
    intro w2 hs2
    have c0 := cell_of_heap hs2.row 0
    have c1 := cell_of_heap hs2.row 1
    have c2 := cell_of_heap hs2.row 2
    simp at c0 c1 c2
    have hk : Keeps [] w w2 := (Keeps.alloc [] w _).trans hs2.keeps (by simp)
    clear hs2
    go_wp2_with fail
    exact bodyPost_ret (v := gottenV (some v)) (by simp [gottenV, results, Tryz.results17, go_sem, c0, c1, c2]) rfl ⟨by rw [HKF.out], hk⟩
end Go.Proofs.YthanhccpmonemaaGreatDoor
