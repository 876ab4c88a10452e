/- The document's table: a row of entries; find and Put, walked. -/
import Derived.Test.YthanhccpmonemaaGreatDoorOwn
import Derived.Deep.Upon
import Derived.Deep.LoopGhost
namespace Go.Proofs.YthanhccpmonemaaGreatDoor
open Go.RowKit

theorem info66 : (Tryz.prog.info? 66).map (fun i => (i.zero, i.size, i.bytes)) = some (some (.agg #[.string ⟨#[]⟩, .int .i64 0, .float .f64 0, .string ⟨#[]⟩, .int .u64 0]), 5, 56) := by kernel_rfl

/-- An entry's cells. -/
def kvCells (v : KV) : List Value := [.string v.key, .int .i64 v.kd, .float .f64 v.n, .string v.s, .int .u64 v.t]
def kvRow : List KV → List Value
  | [] => []
  | v :: vs => kvCells v ++ kvRow vs
theorem kvRow_len : ∀ vs : List KV, (kvRow vs).length = vs.length * 5
  | [] => rfl
  | v :: vs => by simp [kvRow, kvCells, kvRow_len vs]; omega
theorem kvRow_append : ∀ a b : List KV, kvRow (a ++ b) = kvRow a ++ kvRow b
  | [], b => rfl
  | v :: a, b => by simp [kvRow, kvRow_append a b]
theorem kvRow_one : ∀ (vs : List KV), ∀ u ∈ kvRow vs, u.oneCell' = true
  | v :: vs, u, h => by
    rcases List.mem_append.1 h with h | h
    · simp [kvCells] at h
      rcases h with rfl | rfl | rfl | rfl | rfl <;> rfl
    · exact kvRow_one vs u h
theorem kvRow_at : ∀ {vs : List KV} {j : Nat} {v : KV}, vs[j]? = some v → ∀ c, c < 5 → (kvRow vs)[j * 5 + c]? = (kvCells v)[c]?
  | a :: vs, 0, v, h, c, hc => by
    simp at h; subst h
    rw [kvRow, List.getElem?_append_left (by simp [kvCells]; omega)]
    simp
  | a :: vs, j + 1, v, h, c, hc => by
    rw [kvRow, List.getElem?_append_right (by simp [kvCells]; omega)]
    have := kvRow_at (vs := vs) (j := j) (v := v) (by simpa using h) c hc
    rw [← this]
    congr 1
    simp [kvCells]; omega
/-- An entry put in another's place. -/
theorem kvRow_set : ∀ {vs : List KV} {j : Nat} (x : KV), j < vs.length → kvRow (vs.set j x) = (kvRow vs).take (j * 5) ++ kvCells x ++ (kvRow vs).drop (j * 5 + 5)
  | a :: vs, 0, x, h => by simp [kvRow, kvCells]
  | a :: vs, j + 1, x, h => by
    have ih := kvRow_set (vs := vs) (j := j) x (by simpa using h)
    rw [List.set_cons_succ, kvRow, kvRow, ih]
    have e1 : (j + 1) * 5 = (kvCells a).length + j * 5 := by simp [kvCells]; omega
    rw [List.take_append, List.drop_append]
    have e2 : (kvCells a).take ((j + 1) * 5) = kvCells a := List.take_of_length_le (by omega)
    have e3 : (kvCells a).drop ((j + 1) * 5 + 5) = [] := List.drop_of_length_le (by omega)
    have e4 : (j + 1) * 5 - (kvCells a).length = j * 5 := by simp [kvCells]; omega
    have e5 : (j + 1) * 5 + 5 - (kvCells a).length = j * 5 + 5 := by simp [kvCells]; omega
    rw [e2, e3, e4, e5]
    simp [List.append_assoc]

/-- The document's table at block r: a row of entries, a time to live. -/
def RTab (w : World) (r base : Nat) (ttl : Int) (vs : List KV) : Prop :=
  ∃ lv, w.heap[r]? = some (.cells #[lv, .int .u64 ttl] 30 (0, 0)) ∧ w.ownsRow base 66 5 lv vs.length (kvRow vs)

theorem RTab.keep {w w' : World} {r base : Nat} {ttl : Int} {vs : List KV} (h : RTab w r base ttl vs) (hk : ∀ (b : Nat) (c : Array Value) (e : TypeId), w.heap[b]? = some (Obj.cells c e (0, 0)) → e = 30 ∨ e = 66 → w'.heap[b]? = w.heap[b]?) : RTab w' r base ttl vs := by
  obtain ⟨lv, h0, h1⟩ := h
  refine ⟨lv, by rw [hk r _ 30 h0 (.inl rfl)]; exact h0, row_of_block h1 fun g hg => ?_⟩
  obtain ⟨cur, hc⟩ := own_block h1 hg
  exact hk g cur 66 hc (.inr rfl)
theorem RTab.keep0 {w w' : World} {r base : Nat} {ttl : Int} {vs : List KV} (h : RTab w r base ttl vs) (hk : Keeps [] w w') : RTab w' r base ttl vs :=
  h.keep fun b c e hb _ => hk.block b (h_lt hb) (by simp)
theorem RTab.keep_tab {w w' : World} {r base : Nat} {ttl ttl' : Int} {vs us : List KV} {t : Nat} {fp : List Nat} (h : RTab w r base ttl vs) (hT : Tab w t fp ttl' us) (hk : Keeps fp w w') : RTab w' r base ttl vs :=
  h.keep fun b c e hb he => hk.block b (h_lt hb) (hT.other hb (by rcases he with rfl | rfl <;> decide))
/-- A table stays while the document's is worked on. -/
theorem Tab.keep_ref {w w' : World} {r base : Nat} {ttl ttl' : Int} {vs us : List KV} {t : Nat} {fp : List Nat} (hT : Tab w t fp ttl' us) (h : RTab w r base ttl vs) (hk : Keeps [r] w w') : Tab w' t fp ttl' us := by
  obtain ⟨lv, h0, h1⟩ := h
  refine hT.keep hk ?_
  intro b hb hm
  simp at hm
  subst hm
  exact hT.other h0 (by decide) hb

theorem row_entry {w : World} {base : Nat} {lv : Value} {vs : List KV} (h : w.ownsRow base 66 5 lv vs.length (kvRow vs)) {j : Nat} {v : KV} (hv : vs[j]? = some v) :
    ∃ g cap, lv = .slice (some ⟨g, 0, none⟩) vs.length cap ∧ g < w.heap.size ∧ w.cell? ⟨g, j * 5, none⟩ = some (.string v.key) ∧ w.cell? ⟨g, j * 5 + 1, none⟩ = some (.int .i64 v.kd) ∧ w.cell? ⟨g, j * 5 + 2, none⟩ = some (.float .f64 v.n) ∧
      w.cell? ⟨g, j * 5 + 3, none⟩ = some (.string v.s) ∧ w.cell? ⟨g, j * 5 + 4, none⟩ = some (.int .u64 v.t) := by
  have hj := (List.getElem?_eq_some_iff.1 hv).1
  rcases h.2 with ⟨_, h0⟩ | ⟨g, cap, cur, rfl, _, hb, _⟩
  · omega
  · have hc : ∀ c u, c < 5 → (kvCells v)[c]? = some u → w.cell? ⟨g, j * 5 + c, none⟩ = some u := by
      intro c u hc hu
      rw [h.cellAt (j * 5 + c) (by omega), kvRow_at hv c hc]
      exact hu
    exact ⟨g, cap, rfl, h_lt hb, hc 0 _ (by omega) rfl, hc 1 _ (by omega) rfl, hc 2 _ (by omega) rfl, hc 3 _ (by omega) rfl, hc 4 _ (by omega) rfl⟩

theorem slice_shape5 {w : World} {base size n : Nat} {e : TypeId} {v : Value} {xs : List Value} (h : w.ownsRow base e size v n xs) : ∃ a cap, v = .slice a n cap := by
  rcases h.2 with ⟨rfl, rfl⟩ | ⟨g, cap, cur, rfl, _⟩
  · exact ⟨none, 0, rfl⟩
  · exact ⟨_, cap, rfl⟩

/-- What find hands back. -/
def Found (key : ByteArray) (vs : List KV) (z : Int) : Prop := (z = -1 ∧ ∀ v ∈ vs, v.key ≠ key) ∨ ∃ (k : Nat) (v : KV), z = k ∧ vs[k]? = some v ∧ v.key = key

set_option maxHeartbeats 1000000 in
theorem find_any {w : World} {r base : Nat} {ttl : Int} {vs : List KV} (h : RTab w r base ttl vs) (key : ByteArray) (hlen : vs.length ≤ 1000000) :
    Calls Tryz.prog 33 #[.pointer (some ⟨r, 0, none⟩), .string key] w fun e w' => ∃ z, e = .returned (.int .i64 z) ∧ w' = w ∧ Found key vs z := by
  obtain ⟨lv, h0, h1⟩ := h
  obtain ⟨la, lc, rfl⟩ := slice_shape5 h1
  have c0 := cell_of_heap h0 0
  simp at c0
  have HR := Lib.hid h1; clear h0 h1
  go_enter Tryz.func33, Tryz.ntmps33
  go_wp2_with fail
  go_loop [5] (fun i => ∃ k : Nat, k ≤ vs.length ∧ i = .int .i64 k ∧ Hid (∀ j v, j < k → vs[j]? = some v → v.key ≠ key)) (fun i => vs.length - (intOf i).toNat)
  case atStart => exact ⟨0, by omega, rfl, Lib.hid (by intro j v hj; omega)⟩
  case round =>
    obtain ⟨k, hk, rfl, hno⟩ := hrel
    by_cases hlt : k < vs.length
    · obtain ⟨v, hv⟩ : ∃ v, vs[k]? = some v := ⟨vs[k], List.getElem?_eq_getElem hlt⟩
      obtain ⟨g, cap, hs, hg, k0, _⟩ := row_entry HR.out hv
      simp only [Value.slice.injEq, true_and] at hs
      obtain ⟨rfl, rfl⟩ := hs
      have HV := Lib.hid hv; clear hv
      cases heq : (v.key.toList == key.toList)
      · go_wp2_with fail
        refine ⟨⟨k + 1, by omega, by go_num, Lib.hid ?_⟩, by simp [intOf]; omega⟩
        intro j x hj hx
        by_cases hjk : j < k
        · exact hno.out j x hjk hx
        · obtain rfl : j = k := by omega
          rw [HV.out] at hx
          obtain rfl := Option.some.inj hx
          intro e
          rw [e] at heq
          simp at heq
      · go_wp2_with fail
        go_ret
        exact ⟨_, rfl, rfl, .inr ⟨k, v, rfl, HV.out, bytes_toList_inj (by simpa using heq)⟩⟩
    · have hke : k = vs.length := by omega
      subst hke
      clear hlt hk
      go_wp2_with fail
      go_ret
      refine ⟨_, rfl, rfl, .inl ⟨rfl, fun v hv => ?_⟩⟩
      obtain ⟨j, hj⟩ := List.mem_iff_getElem?.1 hv
      exact hno.out j v (List.getElem?_eq_some_iff.1 hj).1 hj
end Go.Proofs.YthanhccpmonemaaGreatDoor
