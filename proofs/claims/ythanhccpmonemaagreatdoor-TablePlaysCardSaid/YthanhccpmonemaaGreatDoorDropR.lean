/- The document's Drop, walked. -/
import Derived.Test.YthanhccpmonemaaGreatDoorGetB
import Derived.Deep.RegionLaw
namespace Go.Proofs.YthanhccpmonemaaGreatDoor
open Go.RowKit

theorem part5 {w : World} {base n cap g size : Nat} {e : TypeId} {xs : List Value} (h : w.ownsRow base e size (.slice (some ⟨g, 0, none⟩) n cap) n xs) (b l : Nat) :
    ∀ w', Keeps [] w w' → ∀ j u, ((xs.drop b).take l)[j]? = some u → w'.cell? ((⟨g, b, none⟩ : Addr).add j) = some u := by
  intro w' hk j u hj
  have hl : xs.length = n * size := h.1
  rw [List.getElem?_take] at hj
  split at hj
  · rw [List.getElem?_drop] at hj
    have hlt := (List.getElem?_eq_some_iff.1 hj).1
    have hadd : (⟨g, b, none⟩ : Addr).add j = ⟨g, b + j, none⟩ := by unfold Addr.add; split <;> simp_all
    rw [hadd]
    have hc := h.cellAt (b + j) (by omega)
    rw [hj] at hc
    obtain ⟨cur, hb⟩ := own_block h rfl
    exact hk.cell (h_lt hb) hc
  · cases hj

theorem tail5 {w : World} {base n cap g : Nat} {e : TypeId} {xs : List Value} (h : w.ownsRow base e 5 (.slice (some ⟨g, 0, none⟩) n cap) n xs) {i : Nat} (hi : i < n) :
    ∃ A : Addr, (if cap = i + 1 then some (⟨g, 0, none⟩ : Addr) else some ⟨g, (i + 1) * 5, none⟩) = some A ∧ Hid (∀ w', Keeps [] w w' → ∀ j u, (xs.drop ((i + 1) * 5))[j]? = some u → w'.cell? (A.add j) = some u) := by
  have hl : xs.length = n * 5 := h.1
  have hc := (row_cap h).1
  by_cases hcap : cap = i + 1
  · refine ⟨⟨g, 0, none⟩, by simp [hcap], fun w' _ j u hj => ?_⟩
    rw [List.drop_of_length_le (by omega)] at hj
    simp at hj
  · refine ⟨⟨g, (i + 1) * 5, none⟩, by simp [hcap], fun w' hk j u hj => ?_⟩
    refine part5 h ((i + 1) * 5) (n * 5) w' hk j u ?_
    rw [List.take_of_length_le (by rw [List.length_drop]; omega)]
    exact hj

theorem kvRow_take (vs : List KV) (k : Nat) : (kvRow vs).take (k * 5) = kvRow (vs.take k) := by
  induction vs generalizing k with
  | nil => simp [kvRow]
  | cons v vs ih =>
    cases k with
    | zero => simp [kvRow]
    | succ k =>
      rw [kvRow, List.take_succ_cons, kvRow, ← ih k, List.take_append]
      have e1 : (k + 1) * 5 - (kvCells v).length = k * 5 := by simp [kvCells]; omega
      have e2 : (kvCells v).take ((k + 1) * 5) = kvCells v := List.take_of_length_le (by simp [kvCells]; omega)
      rw [e1, e2]
theorem kvRow_drop (vs : List KV) (k : Nat) : (kvRow vs).drop (k * 5) = kvRow (vs.drop k) := by
  induction vs generalizing k with
  | nil => simp [kvRow]
  | cons v vs ih =>
    cases k with
    | zero => simp [kvRow]
    | succ k =>
      rw [kvRow, List.drop_succ_cons, ← ih k, List.drop_append]
      have e1 : (k + 1) * 5 - (kvCells v).length = k * 5 := by simp [kvCells]; omega
      have e2 : (kvCells v).drop ((k + 1) * 5) = [] := List.drop_of_length_le (by simp [kvCells]; omega)
      rw [e1, e2]
      simp
theorem filter_erase' {vs : List KV} {k : Nat} {v : KV} (hn : (rKeys vs).Nodup) (hv : vs[k]? = some v) : (vs.filter fun u => !(v.key == u.key)) = vs.eraseIdx k := by
  induction vs generalizing k with
  | nil => simp at hv
  | cons a vs ih =>
    have hn' : (a.key :: rKeys vs).Nodup := hn
    rw [List.nodup_cons] at hn'
    cases k with
    | zero =>
      simp at hv
      subst hv
      rw [List.filter_cons, beq_self]
      simp only [Bool.not_true, Bool.false_eq_true, if_false, List.eraseIdx_cons_zero]
      rw [List.filter_eq_self]
      intro u hu
      cases hb : (a.key == u.key) with
      | false => rfl
      | true => exact absurd (by rw [bytes_eq_of_beq hb]; exact List.mem_map_of_mem hu) hn'.1
    | succ k =>
      have hv' : vs[k]? = some v := by simpa using hv
      have hne : (v.key == a.key) = false := by
        cases hb : (v.key == a.key) with
        | false => rfl
        | true => exact absurd (by rw [← bytes_eq_of_beq hb]; exact List.mem_map_of_mem (List.mem_of_getElem? hv')) hn'.1
      rw [List.filter_cons, hne]
      simp only [Bool.not_false, if_true, List.eraseIdx_cons_succ]
      rw [ih hn'.2 hv']

theorem kdel_at {vs : List KV} {k : Nat} {v : KV} (hn : (rKeys vs).Nodup) (hv : vs[k]? = some v) : kdel v.key vs = vs.take k ++ vs.drop (k + 1) := by
  rw [← List.eraseIdx_eq_take_drop_succ]
  unfold kdel
  refine filter_erase' hn hv

theorem cut_keeps5 {w w1 : World} {q : Nat} (hg : ((w.alloc (.cells #[] 66)).drew).grownBy w1 (Value.slice (some ⟨w.heap.size, 0, none⟩) 0 0).ownBlock) {v1 : Value} {n : Nat} {xs : List Value} (_ : w1.ownsRow q 66 5 v1 n xs) : Keeps [] w w1 :=
  ((Keeps.alloc [] w (.cells #[] 66)).trans (Keeps.drew [] _) (by simp)).trans (fp' := [w.heap.size]) (Keeps.grown hg (by simp [Value.ownBlock])) (by simp)

set_option maxRecDepth 100000 in
set_option maxHeartbeats 4000000 in
theorem rdrop_any {w : World} {r base : Nat} {ttl : Int} {vs : List KV} (h : RTab w r base ttl vs) (hbase : base ≤ w.heap.size) (key : ByteArray) (hn : (rKeys vs).Nodup) (hlen : vs.length ≤ 1000000) :
    Calls Tryz.prog 19 #[.pointer (some ⟨r, 0, none⟩), .string key] w fun e w' => e = .returned (.bool (kfind key vs).isSome) ∧ RTab w' r base ttl (kdel key vs) ∧ Keeps [r] w w' := by
  obtain ⟨i66, hi, hz0, hz1, hz2⟩ := info_parts info66
  have N66 := Lib.hid hi; have N66z := Lib.hid hz0; have N66s := Lib.hid hz1; have N66b := Lib.hid hz2; clear hi hz0 hz1 hz2
  have HR := Lib.hid h; have HN := Lib.hid hn; clear h hn
  go_enter Tryz.func19, Tryz.ntmps19
  go_wp2_with fail
  refine (find_any HR.out key hlen).mono ?_
  rintro e w1 ⟨z, rfl, rfl, hz⟩
  rcases found_kfind HN.out hz with ⟨rfl, hkf⟩ | ⟨k, v, rfl, hv, hvk, hkf⟩
  · have HKF := Lib.hid hkf; clear hkf hz
    go_wp2_with fail
    go_ret
    exact ⟨by rw [HKF.out]; rfl, by rw [kfind_none HKF.out]; exact HR.out, Keeps.refl _ _⟩
  · have hkd := kdel_at HN.out hv
    rw [hvk] at hkd
    have HKD := Lib.hid hkd; have HKF := Lib.hid hkf; clear hkf hz hkd
    obtain ⟨lv, q0, q1⟩ := HR.out
    obtain ⟨la, lc, rfl⟩ := slice_shape5 q1
    have d0 := cell_of_heap q0 0
    simp at d0
    have hkl := (List.getElem?_eq_some_iff.1 hv).1
    obtain ⟨g, cap, hs, hg, _⟩ := row_entry q1 hv
    simp only [Value.slice.injEq, true_and] at hs
    obtain ⟨rfl, rfl⟩ := hs
    obtain ⟨hcap1, hcap2⟩ := row_cap q1
    have hrl := h_lt q0
    have hp1 := part5 q1 0 (k * 5)
    obtain ⟨A, hA, HP2⟩ := tail5 q1 hkl
    have hgr : r ≠ g := by
      intro e
      subst e
      obtain ⟨cur, hc⟩ := own_block q1 rfl
      rw [q0] at hc
      simp at hc
    have HP1 := Lib.hid hp1; have Q0 := Lib.hid q0; clear hp1 hv q0 q1
    simp only [maxLen] at hcap2
    have x1 : IntKind.i64.wrap ((k : Int) + 1) = (k : Int) + 1 := IntWalk.i64_in _ (by omega)
    have x2 : ((k : Int) + 1).toNat = k + 1 := by omega
    have x3 : (0 : Int) ≤ (k : Int) + 1 := by omega
    have x4 : k ≤ lc := by omega
    have x5 : (k : Int) + 1 ≤ (vs.length : Int) := by omega
    have x6 : k + 1 ≤ vs.length := by omega
    have m1 : (((kvRow vs).drop 0).take (k * 5)).length = k * 5 := by
      rw [List.length_take, List.drop_zero, kvRow_len]; omega
    have m2 : ((kvRow vs).drop ((k + 1) * 5)).length = (vs.length - (k + 1)) * 5 := by
      rw [List.length_drop, kvRow_len]; omega
    have m3 : ∀ u ∈ ((kvRow vs).drop 0).take (k * 5), u.oneCell' = true := fun u hu => kvRow_one vs u (List.mem_of_mem_drop (List.mem_of_mem_take hu))
    have m4 : ∀ u ∈ (kvRow vs).drop ((k + 1) * 5), u.oneCell' = true := fun u hu => kvRow_one vs u (List.mem_of_mem_drop hu)
    have M1 := Lib.hid m1; have M2 := Lib.hid m2; have M3 := Lib.hid m3; have M4 := Lib.hid m4; clear m1 m2 m3 m4
    have b1 : 0 + k ≤ maxLen := by simp only [maxLen]; omega
    have b2 : (0 + k) * 56 ≤ 140737488355328 := by omega
    have b3 : 0 + k + (vs.length - (k + 1)) ≤ maxLen := by simp only [maxLen]; omega
    have b4 : (0 + k + (vs.length - (k + 1))) * 56 ≤ 140737488355328 := by omega
    have B1 := Lib.hid b1; have B2 := Lib.hid b2; have B3 := Lib.hid b3; have B4 := Lib.hid b4; clear b1 b2 b3 b4
    go_wp2_with fail
    go_region_law (first
      | (refine step_own rfl (.tmp 12) (.tmp 18) 27 rfl w1.heap.size 66 i66 (.agg #[.string ⟨#[]⟩, .int .i64 0, .float .f64 0, .string ⟨#[]⟩, .int .u64 0]) 5 56 Tryz.underlying27 N66.out N66z.out N66s.out N66b.out rfl (by decide) _ 0 [] rfl (World.ownsRow_lit w1 #[] 0 (Nat.le_refl _) (by decide) rfl) ⟨g, 0, none⟩ k lc (((kvRow vs).drop 0).take (k * 5)) rfl M1.out (HP1.out _ ((Keeps.alloc [] w1 _).trans (Keeps.drew [] _) (by simp))) M3.out B1.out B2.out (by simp) ?_; intro v2 w2 ho2 hg2; have e2 := (cut_keeps5 hg2 ho2).cell hrl d0)
      | (refine step_own rfl (.tmp 19) (.tmp 26) 27 rfl w1.heap.size 66 i66 (.agg #[.string ⟨#[]⟩, .int .i64 0, .float .f64 0, .string ⟨#[]⟩, .int .u64 0]) 5 56 Tryz.underlying27 N66.out N66z.out N66s.out N66b.out rfl (by decide) _ (0 + k) _ rfl ho2 A (vs.length - (k + 1)) (lc - (k + 1)) ((kvRow vs).drop ((k + 1) * 5)) rfl M2.out (HP2.out _ (cut_keeps5 hg2 ho2)) M4.out B3.out B4.out (cut_keeps5 hg2 ho2).size ?_; intro v3 w3 ho3 hg3; obtain ⟨na, nc, rfl⟩ := slice_shape5 ho3; have hk3 := keeps_row (W := w1) (cut_keeps5 hg2 ho2) ho2 hg3; have hr3 := hk3.at Q0.out (by simp); have e0 := cell_of_heap hr3 0; have f0 := frozen_of_heap hr3 0; simp only [List.getElem?_toArray, List.getElem?_cons_zero] at e0))
    all_goals
      have HK3 := Lib.hid hk3; have HO3 := Lib.hid ho3; have HR3 := Lib.hid hr3
      clear hk3 ho3 hr3 hg3 hg2 ho2 e2
      go_wp2_with fail
      go_ret
      have hs : Keeps [r] w3 (w3.setCell ⟨r, 0, none⟩ (.slice na (k + (vs.length - (k + 1))) nc)) := Keeps.setCell _ _ _ _ (by simp)
      have hl : k + (vs.length - (k + 1)) = (kdel key vs).length := by
        rw [HKD.out, List.length_append, List.length_take, List.length_drop]; omega
      refine ⟨by rw [HKF.out]; rfl, ⟨.slice na (k + (vs.length - (k + 1))) nc, ?_, ?_⟩, (HK3.out.weaken (by simp)).trans hs (by simp)⟩
      · have := h_set_eq (i := 0) (u := .slice na (k + (vs.length - (k + 1))) nc) HR3.out
        simpa using this
      · have h9 := HO3.out
        simp only [Nat.zero_add] at h9
        rw [List.drop_zero, List.nil_append, kvRow_take, kvRow_drop, ← kvRow_append, ← HKD.out] at h9
        rw [← hl]
        refine row_mono (row_of_block h9 fun g' hg' => ?_) hbase
        obtain ⟨cur, hc⟩ := own_block h9 hg'
        refine hs.block g' (h_lt hc) ?_
        intro hm
        simp at hm
        subst hm
        rw [HR3.out] at hc
        simp at hc
end Go.Proofs.YthanhccpmonemaaGreatDoor
