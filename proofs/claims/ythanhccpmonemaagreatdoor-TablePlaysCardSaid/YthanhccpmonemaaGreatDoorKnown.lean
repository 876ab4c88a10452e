/- known, walked by its callees' contracts. -/
import Derived.Test.YthanhccpmonemaaGreatDoorKey
namespace Go.Proofs.YthanhccpmonemaaGreatDoor
open Go.RowKit

/-- A slice of strings whose block is none of fp's. -/
def StrO (w : World) (v : Value) (ss : List ByteArray) (fp : List Nat) : Prop := StrS w v ss ∧ ∀ k, v.ownBlock = some k → k ∉ fp ∧ k < w.heap.size

theorem StrS.keep {w w' : World} {v : Value} {ss : List ByteArray} {fp : List Nat} (h : StrS w v ss) (hk : Keeps fp w w') (hf : ∀ k, v.ownBlock = some k → k ∉ fp ∧ k < w.heap.size) : StrS w' v ss := by
  obtain ⟨hl, h⟩ := h
  refine ⟨hl, ?_⟩
  rcases h with h | ⟨g, o, cap, rfl, hc⟩
  · exact .inl h
  · refine .inr ⟨g, o, cap, rfl, fun j hj => ?_⟩
    have hg := hf g rfl
    rw [World.cell?_of_block (w := w) (hk.block g hg.2 hg.1)]
    exact hc j hj
theorem StrO.keep {w w' : World} {v : Value} {ss : List ByteArray} {fp fp' : List Nat} (h : StrO w v ss fp) (hk : Keeps fp w w') (hg : Grew w fp fp') : StrO w' v ss fp' :=
  ⟨h.1.keep hk h.2, fun k hk' => ⟨fun hm => (hg k hm).elim (h.2 k hk').1 (fun h2 => by have := (h.2 k hk').2; omega), Nat.lt_of_lt_of_le (h.2 k hk').2 hk.size⟩⟩
theorem StrO.keep0 {w w' : World} {v : Value} {ss : List ByteArray} {fp : List Nat} (h : StrO w v ss fp) (hk : Keeps [] w w') : StrO w' v ss fp :=
  h.keep (hk.weaken (by simp)) (fun _ hk => .inl hk)

theorem keys_tab {w : World} {t : Nat} {fp : List Nat} {ttl : Int} {vs : List KV} (h : Tab w t fp ttl vs) (hl : vs.length ≤ 1000000) :
    Calls Tryz.prog 9 #[.pointer (some ⟨t, 0, none⟩)] w fun e w' => ∃ v, e = .returned v ∧ StrO w' v (vs.map (·.key)) fp ∧ Tab w' t fp ttl vs ∧ Keeps [] w w' := by
  have hT := h
  have hlt := h.lt
  obtain ⟨m, es, l, clock, hr, rfl, rfl⟩ := h
  refine (keys_any w t m ttl es _ hr.tab hr.chain (by simpa using hl)).mono ?_
  rintro e w' ⟨v, rfl, hown, hk⟩
  have hss : (es.map Ent.vis).map (·.key) = es.map (·.key) := by simp [Ent.vis]
  refine ⟨v, rfl, ⟨?_, fun k hv => ?_⟩, hT.keep hk (by simp), hk⟩
  · rw [hss]
    refine StrS.of_row (base := w.heap.size) ?_ (by simpa using hl)
    simpa [keyCells, Function.comp_def] using hown
  · have := hown.lt k hv
    exact ⟨fun hm => by have := hlt k hm; omega, this.2⟩

theorem StrS.lit {w : World} {b : Nat} {c : Array Value} {ss : List ByteArray} {n cap : Nat} (h : w.heap[b]? = some (.cells c 9 (0, 0))) (hc : c = (ss.map Value.string).toArray) (hl : ss.length ≤ 1000000) (hn : n = ss.length) : StrS w (.slice (some ⟨b, 0, none⟩) n cap) ss := by
  subst hc; subst hn
  refine ⟨hl, .inr ⟨b, 0, cap, rfl, fun j hj => ?_⟩⟩
  rw [cell_of_heap h]
  simp [hj]

abbrev kA : ByteArray := ⟨#[97]⟩
abbrev kB : ByteArray := ⟨#[98]⟩

set_option maxHeartbeats 1000000 in
theorem known_any (w : World) : Calls Tryz.prog 5 #[] w fun e w' => e = .returned (.bool true) ∧ Keeps [] w w' := by
  go_enter Tryz.func5, Tryz.ntmps5
  go_wp2_with fail
  refine (new_tab w).mono ?_
  rintro e w1 ⟨t, fp1, rfl, hT1, hK1, hF1⟩
  go_wp2_with fail
  refine (num_any _ w1).mono ?_
  rintro e w2 ⟨rfl, hK2⟩
  have hT2 := hT1.keep hK2 (by simp)
  go_wp2_with fail
  refine (put_tab hT2 ⟨kB, 1, zClean 4607182418800017408, ⟨#[]⟩, 5⟩).mono ?_
  rintro e w3 ⟨rfl, fp3, hT3, hK3, hG3⟩
  clear hT1 hT2
  go_wp2_with fail
  refine (num_any _ w3).mono ?_
  rintro e w4 ⟨rfl, hK4⟩
  have hT4 := hT3.keep hK4 (by simp)
  go_wp2_with fail
  refine (put_tab hT4 ⟨kA, 1, zClean 4611686018427387904, ⟨#[]⟩, 6⟩).mono ?_
  rintro e w5 ⟨rfl, fp5, hT5, hK5, hG5⟩
  clear hT3 hT4
  go_wp2_with fail
  refine (num_any _ w5).mono ?_
  rintro e w6 ⟨rfl, hK6⟩
  have hT6 := hT5.keep hK6 (by simp)
  go_wp2_with fail
  refine (put_tab hT6 ⟨kB, 1, zClean 4613937818241073152, ⟨#[]⟩, 7⟩).mono ?_
  rintro e w7 ⟨rfl, fp7, hT7, hK7, hG7⟩
  clear hT5 hT6
  go_wp2_with fail
  refine (keys_tab hT7 (by decide)).mono ?_
  rintro e w8 ⟨v, rfl, hv8, hT8, hK8⟩
  go_wp2_with fail
  refine (drop_tab hT8 kB).mono ?_
  rintro e w9 ⟨he, fp9, hT9, hK9, hG9⟩
  obtain rfl : e = .returned (.bool true) := he
  have hv9 := hv8.keep hK9 hG9
  clear hT7 hT8 hv8
  go_wp2_with fail
  refine (num_any _ w9).mono ?_
  rintro e w10 ⟨rfl, hK10⟩
  have hT10 := hT9.keep hK10 (by simp)
  have hv10 := hv9.keep0 hK10
  go_wp2_with fail
  refine (put_tab hT10 ⟨kB, 1, zClean 4616189618054758400, ⟨#[]⟩, 8⟩).mono ?_
  rintro e w11 ⟨rfl, fp11, hT11, hK11, hG11⟩
  have hv11 := hv10.keep hK11 hG11
  clear hT9 hT10 hv9 hv10
  go_wp2_with fail
  have hl1 : StrS (w11.alloc (.cells #[.string ⟨#[98]⟩, .string ⟨#[97]⟩] 9)) (.slice (some ⟨w11.heap.size, 0, none⟩) 2 2) [kB, kA] := StrS.lit (h_new _ _) rfl (by decide) rfl
  have hva := (hv11.keep0 (Keeps.alloc [] w11 (.cells #[.string ⟨#[98]⟩, .string ⟨#[97]⟩] 9))).1
  have hTa := hT11.keep (Keeps.alloc [] w11 (.cells #[.string ⟨#[98]⟩, .string ⟨#[97]⟩] 9)) (by simp)
  refine (strs_any hva hl1).mono ?_
  rintro e w12 ⟨he, n12, rfl⟩
  obtain rfl : e = .returned (.bool true) := he
  have hT12 := hTa.keep (Keeps.drewN [] _ n12) (by simp)
  clear hT11 hTa hva hl1 hv11
  go_wp2_with fail
  refine (keys_tab hT12 (by decide)).mono ?_
  rintro e w13 ⟨v', rfl, hv13, hT13, hK13⟩
  go_wp2_with fail
  have hl2 : StrS (w13.alloc (.cells #[.string ⟨#[97]⟩, .string ⟨#[98]⟩] 9)) (.slice (some ⟨w13.heap.size, 0, none⟩) 2 2) [kA, kB] := StrS.lit (h_new _ _) rfl (by decide) rfl
  have hvb := (hv13.keep0 (Keeps.alloc [] w13 (.cells #[.string ⟨#[97]⟩, .string ⟨#[98]⟩] 9))).1
  have hTb := hT13.keep (Keeps.alloc [] w13 (.cells #[.string ⟨#[97]⟩, .string ⟨#[98]⟩] 9)) (by simp)
  refine (strs_any hvb hl2).mono ?_
  rintro e w14 ⟨he, n14, rfl⟩
  obtain rfl : e = .returned (.bool true) := he
  have hT14 := hTb.keep (Keeps.drewN [] _ n14) (by simp)
  have hlen := len_tab hT14
  have hk : Keeps [] w ((w13.alloc (.cells #[.string ⟨#[97]⟩, .string ⟨#[98]⟩] 9)).drewN n14) := by
    have k1 := hK1.trans hK2 (by simp)
    have k3 : Keeps [] w w3 := k1.trans hK3 (fun x hx => .inr (hF1 x hx))
    have g3 : ∀ x ∈ fp3, w.heap.size ≤ x := fun x hx => (hG3 x hx).elim (hF1 x) (fun h => by have := k1.size; omega)
    have k4 := k3.trans hK4 (by simp)
    have k5 : Keeps [] w w5 := k4.trans hK5 (fun x hx => .inr (g3 x hx))
    have g5 : ∀ x ∈ fp5, w.heap.size ≤ x := fun x hx => (hG5 x hx).elim (g3 x) (fun h => by have := k4.size; omega)
    have k6 := k5.trans hK6 (by simp)
    have k7 : Keeps [] w w7 := k6.trans hK7 (fun x hx => .inr (g5 x hx))
    have g7 : ∀ x ∈ fp7, w.heap.size ≤ x := fun x hx => (hG7 x hx).elim (g5 x) (fun h => by have := k6.size; omega)
    have k8 := k7.trans hK8 (by simp)
    have k9 : Keeps [] w w9 := k8.trans hK9 (fun x hx => .inr (g7 x hx))
    have g9 : ∀ x ∈ fp9, w.heap.size ≤ x := fun x hx => (hG9 x hx).elim (g7 x) (fun h => by have := k8.size; omega)
    have k10 := k9.trans hK10 (by simp)
    have k11 : Keeps [] w w11 := k10.trans hK11 (fun x hx => .inr (g9 x hx))
    have k12 : Keeps [] w ((w11.alloc (.cells #[.string ⟨#[98]⟩, .string ⟨#[97]⟩] 9)).drewN n12) := (k11.trans (Keeps.alloc [] _ _) (by simp)).trans (Keeps.drewN [] _ _) (by simp)
    have k13 := k12.trans hK13 (by simp)
    exact (k13.trans (Keeps.alloc [] _ _) (by simp)).trans (Keeps.drewN [] _ _) (by simp)
  clear hK1 hK2 hK3 hK4 hK5 hK6 hK7 hK8 hK9 hK10 hK11 hK13 hG3 hG5 hG7 hG9 hG11 hF1 hT12 hT13 hTb hT14 hvb hl2 hv13
  have HK := Lib.hid hk; clear hk
  go_wp2_with fail
  refine hlen.mono ?_
  rintro e w15 ⟨he, rfl⟩
  obtain rfl : e = .returned (.int .i64 2) := he
  go_wp2_with fail
  go_ret
  exact ⟨rfl, HK.out⟩
end Go.Proofs.YthanhccpmonemaaGreatDoor
