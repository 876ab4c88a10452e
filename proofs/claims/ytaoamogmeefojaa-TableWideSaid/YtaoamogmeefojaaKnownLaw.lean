/- TableKnown, walked by its callees' contracts. -/
import Derived.Test.YtaoamogmeefojaaPurge
import Derived.Test.YtaoamogmeefojaaDue
namespace Go.Proofs.Ytaoamogmeefojaa
open Go.RowKit

def dueV (ttl : Int) (vs : List KV) : Value := if ttl = 0 ∨ vs = [] then .tuple #[.int .u64 0, .bool false] else .tuple #[.int .u64 (dueFold ttl (vs.map (·.t))), .bool true]

theorem due_tab {w : World} {t : Nat} {fp : List Nat} {ttl : Int} {vs : List KV} (h : Tab w t fp ttl vs) (ht0 : 0 ≤ ttl) (ht1 : ttl ≤ 18446744073709551615)
    (hts : ∀ v ∈ vs, 0 ≤ v.t ∧ v.t ≤ 18446744073709551615) :
    Calls Try.prog 18 #[.pointer (some ⟨t, 0, none⟩)] w fun e w' => e = .returned (dueV ttl vs) ∧ ∃ n, w' = w.drewN n := by
  obtain ⟨m, es, l, clock, hr, rfl, rfl⟩ := h
  unfold dueV
  by_cases hz : ttl = 0
  · subst hz
    rw [if_pos (.inl rfl)]
    refine (due_none w t m 0 _ _ hr.tab (.inl rfl)).mono ?_
    rintro e w' ⟨rfl, rfl⟩
    exact ⟨rfl, 0, rfl⟩
  · by_cases he : es = []
    · subst he
      rw [if_pos (.inr rfl)]
      refine (due_none w t m ttl _ _ hr.tab (.inr ⟨by omega, rfl⟩)).mono ?_
      rintro e w' ⟨rfl, rfl⟩
      exact ⟨rfl, 0, rfl⟩
    · rw [if_neg (by simp [hz, he])]
      have := due_any w t m ttl es _ hr.tab hr.chain (by omega) ht1 he (fun e hm => hts e.vis (List.mem_map_of_mem hm))
      simpa [Ent.vis, Function.comp_def] using this

/-- Times that a uint64 holds. -/
def TB (vs : List KV) : Prop := ∀ v ∈ vs, 0 ≤ v.t ∧ v.t ≤ 18446744073709551615
theorem TB.nil : TB [] := by intro v hv; cases hv
theorem TB.put {vs : List KV} {x : KV} (h : TB vs) (h0 : 0 ≤ x.t) (h1 : x.t ≤ 18446744073709551615) : TB (kput x vs) := by
  intro v hv
  unfold kput at hv
  split at hv
  · obtain ⟨u, hu, rfl⟩ := List.mem_map.1 hv
    split
    · exact ⟨h0, h1⟩
    · exact h u hu
  · rcases List.mem_append.1 hv with hv | hv
    · exact h v hv
    · simp at hv; subst hv; exact ⟨h0, h1⟩
theorem TB.del {vs : List KV} {s : ByteArray} (h : TB vs) : TB (kdel s vs) := fun v hv => h v (List.mem_filter.1 hv).1
theorem TB.rest {vs : List KV} {now ttl : Int} (h : TB vs) : TB (restV now ttl vs) := by
  intro v hv
  unfold restV at hv
  split at hv
  · exact h v hv
  · exact h v (List.mem_filter.1 hv).1

theorem Keeps.cell {w w' : World} (h : Keeps [] w w') {b o : Nat} {v : Value} (hb : b < w.heap.size) (hc : w.cell? ⟨b, o, none⟩ = some v) : w'.cell? ⟨b, o, none⟩ = some v := by
  rw [World.cell?_of_block (w := w) (a := ⟨b, o, none⟩) (h.block b hb (by simp))]; exact hc

theorem zc2 : zClean 4611686018427387904 = 4611686018427387904 := by kernel_rfl
theorem zc4 : zClean 4616189618054758400 = 4616189618054758400 := by kernel_rfl

set_option maxHeartbeats 1000000 in
theorem law_known (w : World) : Calls Try.prog 6 #[] w fun e w' => e = .returned (.bool true) ∧ Keeps [] w w' := by
  go_enter Try.func6, Try.ntmps6
  go_wp2_with fail
  refine (new_tab w).mono ?_
  rintro e w1 ⟨t, fp1, rfl, hT1, hK1, hF1⟩
  go_wp2_with fail
  refine (known_any w1).mono ?_
  rintro e w2 ⟨rfl, hK2⟩
  have hT2 := hT1.keep hK2 (by simp)
  go_wp2_with fail
  refine (due_tab hT2 (by omega) (by omega) (by simp)).mono ?_
  rintro e w3 ⟨he, n3, rfl⟩
  obtain rfl : e = .returned (.tuple #[.int .u64 0, .bool false]) := he
  have hT3 := hT2.keep (Keeps.drewN [] w2 n3) (by simp)
  go_wp2_with fail
  refine (num_any _ _).mono ?_
  rintro e w4 ⟨rfl, hK4⟩
  have hT4 := hT3.keep hK4 (by simp)
  go_wp2_with fail
  refine (put_tab hT4 ⟨kA, 1, zClean 4611686018427387904, ⟨#[]⟩, 6⟩).mono ?_
  rintro e w5 ⟨rfl, fp5, hT5, hK5, hG5⟩
  go_wp2_with fail
  refine (num_any _ _).mono ?_
  rintro e w6 ⟨rfl, hK6⟩
  have hT6 := hT5.keep hK6 (by simp)
  go_wp2_with fail
  refine (put_tab hT6 ⟨kB, 1, zClean 4616189618054758400, ⟨#[]⟩, 8⟩).mono ?_
  rintro e w7 ⟨rfl, fp7, hT7, hK7, hG7⟩
  clear hT1 hT2 hT3 hT4 hT5 hT6
  have hB7 : TB (kput ⟨kB, 1, zClean 4616189618054758400, ⟨#[]⟩, 8⟩ (kput ⟨kA, 1, zClean 4611686018427387904, ⟨#[]⟩, 6⟩ [])) := (TB.nil.put (by decide) (by decide)).put (by decide) (by decide)
  go_wp2_with fail
  refine (expire_tab hT7 3).mono ?_
  rintro e w8 ⟨rfl, hT8, hK8⟩
  go_wp2_with fail
  refine (due_tab hT8 (by omega) (by omega) hB7).mono ?_
  rintro e w9 ⟨he, n9, rfl⟩
  obtain rfl : e = .returned (.tuple #[.int .u64 9, .bool true]) := he
  have hT9 := hT8.keep (Keeps.drewN [] w8 n9) (by simp)
  go_wp2_with fail
  refine (purge_tab hT9 8 (by omega) (by omega) (by omega) (by omega) hB7 (by decide)).mono ?_
  rintro e w10 ⟨v10, fp10, rfl, hS10, hT10, hK10, hG10⟩
  go_wp2_with fail
  refine (purge_tab hT10 9 (by omega) (by omega) (by omega) (by omega) hB7.rest (by decide)).mono ?_
  rintro e w11 ⟨v11, fp11, rfl, hS11, hT11, hK11, hG11⟩
  go_wp2_with fail
  refine (get_tab hT11 kB).mono ?_
  rintro e w12 ⟨he, hK12⟩
  obtain rfl : e = .returned (.tuple #[.agg #[.int .i64 1, .float .f64 (zClean 4616189618054758400), .string ⟨#[]⟩], .bool true]) := he
  rw [zc4]
  have hT12 := hT11.keep hK12 (by simp)
  have hS12 := (hS11.keep0 hK12)
  have hS10' := ((hS10.keep hK11 hG11).keep0 hK12)
  clear hS10 hS11 hT7 hT8 hT9 hT10 hT11
  go_wp2_with ((with_reducible show wpList _ _ _ (Oper.mk none (.store 37 _ _) _ _ _ _ :: _) _ _); refine stT 37 w12.heap.size 0 _ (h_new _ _) rfl (.agg #[.int .i64 1, .float .f64 4616189618054758400, .string ⟨#[]⟩]) rfl (by kernel_rfl) (by simp [Value.cells]) (by simp [Value.cells, Value.oneCell']) ?_)
  intro w13 hs
  have hK13 : Keeps [] w12 w13 := (Keeps.alloc [] w12 _).trans hs.keeps (by simp)
  have hN := cell_of_heap hs.row 1
  simp at hN
  have hNl := h_lt hs.row
  have hT13 := hT12.keep hK13 (by simp)
  have hS13 := hS12.keep0 hK13
  have hS10a := hS10'.keep0 hK13
  obtain ⟨x10, c10, rfl⟩ : ∃ x c, v10 = .slice x 0 c := by
    rcases hS10a.1.2 with ⟨h1, _⟩ | ⟨g, o, c, h1, _⟩
    · exact ⟨_, _, h1⟩
    · exact ⟨_, c, h1⟩
  clear hS12 hT12 hs hS10' hS10a
  go_wp2_with fail
  have hl1 : StrS (w13.alloc (.cells #[.string ⟨#[97]⟩] 9)) (.slice (some ⟨w13.heap.size, 0, none⟩) 1 1) [kA] := StrS.lit (h_new _ _) rfl (by decide) rfl
  have hva := (hS13.keep0 (Keeps.alloc [] w13 (.cells #[.string ⟨#[97]⟩] 9))).1
  refine (strs_any hva hl1).mono ?_
  rintro e w14 ⟨he, n14, rfl⟩
  obtain rfl : e = .returned (.bool true) := he
  have hK14 : Keeps [] w13 ((w13.alloc (.cells #[.string ⟨#[97]⟩] 9)).drewN n14) := (Keeps.alloc [] w13 _).trans (Keeps.drewN [] _ _) (by simp)
  have hT14 := hT13.keep hK14 (by simp)
  clear hva hl1 hT13 hS13
  go_wp2_with fail
  refine (keys_tab hT14 (by decide)).mono ?_
  rintro e w15 ⟨v15, rfl, hS15, hT15, hK15⟩
  go_wp2_with fail
  have hl2 : StrS (w15.alloc (.cells #[.string ⟨#[98]⟩] 9)) (.slice (some ⟨w15.heap.size, 0, none⟩) 1 1) [kB] := StrS.lit (h_new _ _) rfl (by decide) rfl
  have hvb := (hS15.keep0 (Keeps.alloc [] w15 (.cells #[.string ⟨#[98]⟩] 9))).1
  refine (strs_any hvb hl2).mono ?_
  rintro e w16 ⟨he, n16, rfl⟩
  obtain rfl : e = .returned (.bool true) := he
  have hK16 : Keeps [] w15 ((w15.alloc (.cells #[.string ⟨#[98]⟩] 9)).drewN n16) := (Keeps.alloc [] w15 _).trans (Keeps.drewN [] _ _) (by simp)
  have hT16 := hT15.keep hK16 (by simp)
  have hK13' : Keeps [] w13 ((w15.alloc (.cells #[.string ⟨#[98]⟩] 9)).drewN n16) := (hK14.trans hK15 (by simp)).trans hK16 (by simp)
  have hN' := hK13'.cell hNl hN
  clear hvb hl2 hT14 hT15 hS15 hN
  have hE : (FloatKind.f64.format.order 4616189618054758400 4616189618054758400 == some Ordering.eq) = true := by kernel_rfl
  have hdrop := drop_tab hT16 kA
  generalize hW : (w15.alloc (.cells #[.string ⟨#[98]⟩] 9)).drewN n16 = w17 at *
  have HW := Lib.hid hW; clear hW
  go_wp2_with fail
  refine hdrop.mono ?_
  rintro e w18 ⟨he, fp18, hT18, hK18, hG18⟩
  obtain rfl : e = .returned (.bool false) := he
  have hk : Keeps [] w w18 := by
    have k3 := (hK1.trans hK2 (by simp)).trans (Keeps.drewN [] w2 n3) (by simp)
    have k4 := k3.trans hK4 (by simp)
    have k5 : Keeps [] w w5 := k4.trans hK5 (fun x hx => .inr (hF1 x hx))
    have g5 : ∀ x ∈ fp5, w.heap.size ≤ x := fun x hx => (hG5 x hx).elim (hF1 x) (fun h => by have := k4.size; omega)
    have k6 := k5.trans hK6 (by simp)
    have k7 : Keeps [] w w7 := k6.trans hK7 (fun x hx => .inr (g5 x hx))
    have g7 : ∀ x ∈ fp7, w.heap.size ≤ x := fun x hx => (hG7 x hx).elim (g5 x) (fun h => by have := k6.size; omega)
    have k8 : Keeps [] w w8 := k7.trans hK8 (fun x hx => .inr (g7 x hx))
    have k9 := k8.trans (Keeps.drewN [] w8 n9) (by simp)
    have k10 : Keeps [] w w10 := k9.trans hK10 (fun x hx => .inr (g7 x hx))
    have g10 : ∀ x ∈ fp10, w.heap.size ≤ x := fun x hx => (hG10 x hx).elim (g7 x) (fun h => by have := k9.size; omega)
    have k11 : Keeps [] w w11 := k10.trans hK11 (fun x hx => .inr (g10 x hx))
    have g11 : ∀ x ∈ fp11, w.heap.size ≤ x := fun x hx => (hG11 x hx).elim (g10 x) (fun h => by have := k10.size; omega)
    have k13 := (k11.trans hK12 (by simp)).trans hK13 (by simp)
    have k17 := k13.trans hK13' (by simp)
    exact k17.trans hK18 (fun x hx => .inr (g11 x hx))
  clear hK1 hK2 hK4 hK5 hK6 hK7 hK8 hK10 hK11 hK12 hK13 hK14 hK15 hK16 hK13' hK18 hG5 hG7 hG10 hG11 hG18 hF1 hT16 hT18 hB7
  have HK := Lib.hid hk; clear hk
  go_wp2_with fail
  go_ret
  exact ⟨rfl, HK.out⟩
end Go.Proofs.Ytaoamogmeefojaa
