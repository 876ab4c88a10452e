/- run's Put, walked. -/
import Derived.Test.YthanhccpmonemaaGreatDoorRunD
namespace Go.Proofs.YthanhccpmonemaaGreatDoor
open Go.RowKit

theorem kput_mem {x : KV} {vs : List KV} {v : KV} (h : v ∈ kput x vs) : v = x ∨ v ∈ vs := by
  unfold kput at h
  split at h
  · obtain ⟨u, hu, rfl⟩ := List.mem_map.1 h
    split
    · exact .inl rfl
    · exact .inr hu
  · rcases List.mem_append.1 h with h | h
    · exact .inr h
    · simp at h; exact .inl h
theorem kput_len (x : KV) (vs : List KV) : (kput x vs).length ≤ vs.length + 1 := by
  unfold kput
  split <;> simp

set_option maxRecDepth 100000 in
set_option maxHeartbeats 4000000 in
theorem run_put {w0 w : World} {t r : Nat} {fp : List Nat} {ttl : Int} {vs : List KV} (h : Both w0 w t r fp ttl vs) (hlen : vs.length ≤ 1000) (what : Int) (hw : -9223372036854775808 ≤ what ∧ what ≤ 9223372036854775807) (ao : Option Addr) (kn kc n : Nat) (sn st now : Int)
    (zs : List Int) (hz : BytesZ w0 (.slice ao kn kc) zs) (hx : VOK ⟨lets zs, 1, zClean n, ⟨#[]⟩, now⟩)
    (hp : pick13 what ≤ 4) : Calls Tryz.prog 6 #[.pointer (some ⟨t, 0, none⟩), .pointer (some ⟨r, 0, none⟩), stepV what (.slice ao kn kc) n sn st, .int .u64 now] w (RunEnd w0 t r vs.length) := by
  have ht0 := h.ttl0
  have ht1 := h.ttl1
  have hnd := h.tab.nodup
  have hd0 : DSt w0 t r ttl w.heap.size what (.slice ao kn kc) n sn st vs vs (w.alloc (stepC what (.slice ao kn kc) n sn st)) :=
    ⟨h.keeps.trans (Keeps.alloc [] w _) (by simp), h_new w _, ⟨fp, h.tab.keep (Keeps.alloc [] w _) (by simp), h.fp⟩, h.ref.keep0 (Keeps.alloc [] w _), h.r⟩
  have hok := h.ok
  have HOK := Lib.hid hok; have HW := Lib.hid hw; have HZ := Lib.hid hz; have HND := Lib.hid hnd; have HX := Lib.hid hx; clear h hw hz hnd hok hx
  obtain ⟨p, hpp⟩ : ∃ p, pick13 what = p := ⟨_, rfl⟩
  have hp0 := (pick13_bd what).1
  rw [hpp] at hp hp0
  have HPP := Lib.hid hpp; clear hpp
  go_enter Tryz.func6, Tryz.ntmps6
  go_wp2_with fail
  refine (pick_any what HW.out _).mono ?_
  rintro e w1 ⟨rfl, rfl⟩
  rw [HPP.out]
  have h5 : ¬ p = 5 := by omega
  have h6 : ¬ p = 6 := by omega
  have h7 : ¬ p = 7 := by omega
  have h8 : ¬ p = 8 := by omega
  have h9 : ¬ p = 9 := by omega
  have h10 : ¬ p = 10 := by omega
  have h11 : ¬ p = 11 := by omega
  have h12 : ¬ p = 12 := by omega
  go_upto_region 2 with fail
  have hc1 := hd0.cell1
  have hc2 := hd0.cell2
  simp only [beq_false_of_ne h5, beq_false_of_ne h6, beq_false_of_ne h7, beq_false_of_ne h8, beq_false_of_ne h9, beq_false_of_ne h10, beq_false_of_ne h11, beq_false_of_ne h12]
  clear h5 h6 h7 h8 h9 h10 h11 h12
  generalize (w.alloc (stepC what (.slice ao kn kc) n sn st)) = wa at *
  go_cut [] (fun wx => DSt w0 t r ttl w.heap.size what (.slice ao kn kc) n sn st (kput ⟨lets zs, 1, zClean n, ⟨#[]⟩, now⟩ vs) vs wx)
  case first =>
    go_region_with (first
    | (go_at_call 16; refine (DSt.key (w0 := w0) (t := t) (r := r) (ttl := ttl) (sb := w.heap.size) (what := what) (kv := .slice ao kn kc) (n := n) (sn := sn) (st := st) (by first | assumption | exact DSt.drew (by assumption)) HZ.out).mono ?_; rintro e w' ⟨rfl, hst⟩; have hcx1 := hst.cell1; have hcx2 := hst.cell2)
    | (go_at_call 12; refine (DSt.num (w0 := w0) (t := t) (r := r) (ttl := ttl) (sb := w.heap.size) (what := what) (kv := .slice ao kn kc) (n := n) (sn := sn) (st := st) (by first | assumption | exact DSt.drew (by assumption)) n).mono ?_; rintro e w' ⟨rfl, hst⟩; have hcx1 := hst.cell1; have hcx2 := hst.cell2)
    | (go_at_call 11; go_loud (refine (DSt.put (w0 := w0) (t := t) (r := r) (ttl := ttl) (sb := w.heap.size) (what := what) (kv := .slice ao kn kc) (n := n) (sn := sn) (st := st) (by first | assumption | exact DSt.drew (by assumption)) ⟨lets zs, 1, zClean n, ⟨#[]⟩, now⟩).mono ?_); rintro e w' ⟨rfl, hst⟩; have hcx1 := hst.cell1; have hcx2 := hst.cell2))
    all_goals
      have HST := Lib.hid hst
      clear hcx1 hcx2 hst
      go_wp2_with fail
      go_meet
      case rel => exact HST.out
  case rest =>
    clear hd0 hc1 hc2
    have hd1 := hcut
    have hc1 := hd1.cell1
    have hc2 := hd1.cell2
    clear hcut
    go_upto_region 3 with fail
    go_region_with (first
    | (go_at_call 16; refine (DSt.key (w0 := w0) (t := t) (r := r) (ttl := ttl) (sb := w.heap.size) (what := what) (kv := .slice ao kn kc) (n := n) (sn := sn) (st := st) (by first | assumption | exact DSt.drew (by assumption)) HZ.out).mono ?_; rintro e w' ⟨rfl, hst⟩; have hcx1 := hst.cell1; have hcx2 := hst.cell2)
    | (go_at_call 12; refine (DSt.num (w0 := w0) (t := t) (r := r) (ttl := ttl) (sb := w.heap.size) (what := what) (kv := .slice ao kn kc) (n := n) (sn := sn) (st := st) (by first | assumption | exact DSt.drew (by assumption)) n).mono ?_; rintro e w' ⟨rfl, hst⟩; have hcx1 := hst.cell1; have hcx2 := hst.cell2)
    | (go_at_call 30; go_loud (refine (DSt.rput (w0 := w0) (t := t) (r := r) (ttl := ttl) (sb := w.heap.size) (what := what) (kv := .slice ao kn kc) (n := n) (sn := sn) (st := st) (by first | assumption | exact DSt.drew (by assumption)) ⟨lets zs, 1, zClean n, ⟨#[]⟩, now⟩ HND.out (by omega)).mono ?_); rintro e w' ⟨rfl, hst⟩; have hcx1 := hst.cell1; have hcx2 := hst.cell2))
    all_goals
      have hfin : RunEnd w0 t r vs.length (.returned (.bool true)) w' := hst.fin (fun v hv => by
        rcases kput_mem hv with rfl | hv
        · exact HX.out
        · exact HOK.out v hv) ht0 ht1 (by have := kput_len ⟨lets zs, 1, zClean n, ⟨#[]⟩, now⟩ vs; omega)
      have HFIN := Lib.hid hfin
      clear hfin hcx1 hcx2 hst
      go_wp2_with fail
      go_ret
      exact HFIN.out
end Go.Proofs.YthanhccpmonemaaGreatDoor
