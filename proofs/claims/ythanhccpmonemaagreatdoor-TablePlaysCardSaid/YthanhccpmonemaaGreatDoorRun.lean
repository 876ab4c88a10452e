/- run, walked, case by case. -/
import Derived.Test.YthanhccpmonemaaGreatDoorKeyF
namespace Go.Proofs.YthanhccpmonemaaGreatDoor
open Go.RowKit

/-- Both tables hold the same, as the law keeps them; w0 is the world in which the law was called. -/
structure Both (w0 w : World) (t r : Nat) (fp : List Nat) (ttl : Int) (vs : List KV) : Prop where
  tab : Tab w t fp ttl vs
  ref : RTab w r w0.heap.size ttl vs
  keeps : Keeps [] w0 w
  fp : ∀ x ∈ fp, w0.heap.size ≤ x
  r : w0.heap.size ≤ r
  ok : ∀ v ∈ vs, VOK v
  ttl0 : 0 ≤ ttl
  ttl1 : ttl ≤ 30

abbrev stepV (what : Int) (kv : Value) (n : Nat) (now ttl : Int) : Value := .agg #[.int .i64 what, kv, .float .f64 n, .int .u64 now, .int .u64 ttl]
def RunEnd (w0 : World) (t r : Nat) (len : Nat) (e : Ending) (w' : World) : Prop :=
  e = .returned (.bool true) ∧ ∃ fp ttl vs, Both w0 w' t r fp ttl vs ∧ vs.length ≤ len + 1

set_option maxRecDepth 100000 in
set_option maxHeartbeats 2000000 in
theorem run_expire {w0 w : World} {t r : Nat} {fp : List Nat} {ttl : Int} {vs : List KV} (h : Both w0 w t r fp ttl vs) (what : Int) (hw : -9223372036854775808 ≤ what ∧ what ≤ 9223372036854775807) (ao : Option Addr) (kn kc n : Nat) (sn st now : Int) (h0 : 0 ≤ st) (h1 : st ≤ 18446744073709551615)
    (hp : pick13 what = 8) : Calls Tryz.prog 6 #[.pointer (some ⟨t, 0, none⟩), .pointer (some ⟨r, 0, none⟩), stepV what (.slice ao kn kc) n sn st, .int .u64 now] w (RunEnd w0 t r vs.length) := by
  have H := Lib.hid h; have HW := Lib.hid hw; have HP := Lib.hid hp; clear h hw hp
  go_enter Tryz.func6, Tryz.ntmps6
  go_wp2_with fail
  refine (pick_any what HW.out _).mono ?_
  rintro e w1 ⟨rfl, rfl⟩
  rw [HP.out]
  go_wp2_with fail
  have hka := Keeps.alloc [] w (.cells #[.int .i64 what, .slice ao kn kc, .float .f64 n, .int .u64 sn, .int .u64 st] 34)
  have hTa := H.out.tab.keep hka (by simp)
  have hRa := H.out.ref.keep0 hka
  have hbx := h_new w (.cells #[.int .i64 what, .slice ao kn kc, .float .f64 n, .int .u64 sn, .int .u64 st] 34)
  refine (expire_tab hTa (st % 30)).mono ?_
  rintro e w2 ⟨rfl, hT2, hK2⟩
  have hb2 := hK2.at hbx (hTa.other hbx (by decide))
  have d4 := cell_of_heap hb2 4
  simp at d4
  have hR2 := hRa.keep_tab hTa hK2
  obtain ⟨lv, q0, q1⟩ := hR2
  have c1 := cell_of_heap q0 1
  have f1 := frozen_of_heap q0 1
  simp at c1
  have hk2 : Keeps [] w0 w2 := (H.out.keeps.trans hka (by simp)).trans hK2 (fun x hx => .inr (H.out.fp x hx))
  have HT2 := Lib.hid hT2; have Q0 := Lib.hid q0; have Q1 := Lib.hid q1; have HK2 := Lib.hid hk2
  clear hka hTa hRa hbx hT2 hK2 hb2 q0 q1 hk2
  go_wp2_with fail
  go_ret
  have hs : Keeps [r] w2 (w2.setCell ⟨r, 1, none⟩ (.int .u64 (st % 30))) := Keeps.setCell _ _ _ _ (by simp)
  refine ⟨rfl, fp, st % 30, vs, ⟨?_, ⟨lv, ?_, row_of_block Q1.out fun g hg => ?_⟩, HK2.out.trans hs (by have := H.out.r; simp; omega), H.out.fp, H.out.r, H.out.ok, by omega, by omega⟩, by omega⟩
  · exact HT2.out.keep_ref ⟨lv, Q0.out, Q1.out⟩ hs
  · have := h_set_eq (i := 1) (u := .int .u64 (st % 30)) Q0.out
    simpa using this
  · obtain ⟨cur, hc⟩ := own_block Q1.out hg
    refine hs.block g (h_lt hc) ?_
    intro hm
    simp at hm
    subst hm
    rw [Q0.out] at hc
    simp at hc

theorem VOK.TB {vs : List KV} (h : ∀ v ∈ vs, VOK v) : TB vs := fun v hv => ⟨(h v hv).2.2.2.2.1, (h v hv).2.2.2.2.2.1⟩

set_option maxRecDepth 100000 in
set_option maxHeartbeats 2000000 in
theorem run_due {w0 w : World} {t r : Nat} {fp : List Nat} {ttl : Int} {vs : List KV} (h : Both w0 w t r fp ttl vs) (hlen : vs.length ≤ 1000) (what : Int) (hw : -9223372036854775808 ≤ what ∧ what ≤ 9223372036854775807) (ao : Option Addr) (kn kc n : Nat) (sn st now : Int)
    (hp : pick13 what = 11) : Calls Tryz.prog 6 #[.pointer (some ⟨t, 0, none⟩), .pointer (some ⟨r, 0, none⟩), stepV what (.slice ao kn kc) n sn st, .int .u64 now] w (RunEnd w0 t r vs.length) := by
  have ht0 := h.ttl0
  have ht1 := h.ttl1
  obtain ⟨D, B, hD⟩ : ∃ D B, dueV ttl vs = .tuple #[.int .u64 D, .bool B] := by
    unfold dueV
    split <;> exact ⟨_, _, rfl⟩
  have hsame := due_same ht0 (VOK.TB h.ok)
  rw [hD] at hsame
  have H := Lib.hid h; have HW := Lib.hid hw; have HP := Lib.hid hp; have HD := Lib.hid hD; have HS := Lib.hid hsame.symm; clear h hw hp hD hsame
  go_enter Tryz.func6, Tryz.ntmps6
  go_wp2_with fail
  refine (pick_any what HW.out _).mono ?_
  rintro e w1 ⟨rfl, rfl⟩
  rw [HP.out]
  go_wp2_with fail
  have hka := Keeps.alloc [] w (.cells #[.int .i64 what, .slice ao kn kc, .float .f64 n, .int .u64 sn, .int .u64 st] 34)
  refine (due_tab (H.out.tab.keep hka (by simp)) ht0 (by omega) (VOK.TB H.out.ok)).mono ?_
  rintro e w2 ⟨he, q, rfl⟩
  rw [HD.out] at he
  subst he
  have hk2 := hka.trans (Keeps.drewN [] _ q) (by simp)
  generalize ((w.alloc (.cells #[.int .i64 what, .slice ao kn kc, .float .f64 n, .int .u64 sn, .int .u64 st] 34)).drewN q) = w2 at *
  have HK2 := Lib.hid hk2; clear hka hk2
  cases B
  all_goals
    go_wp2_with fail
    refine (rdue_any (H.out.ref.keep0 HK2.out) ht0 (by omega) (VOK.TB H.out.ok) (by omega)).mono ?_
    rintro e w3 ⟨he, rfl⟩
    rw [HS.out] at he
    subst he
    go_wp2_with fail
    go_ret
    exact ⟨rfl, fp, ttl, vs, ⟨H.out.tab.keep HK2.out (by simp), H.out.ref.keep0 HK2.out, H.out.keeps.trans HK2.out (by simp), H.out.fp, H.out.r, H.out.ok, ht0, ht1⟩, by omega⟩

set_option maxRecDepth 100000 in
set_option maxHeartbeats 2000000 in
theorem run_clear {w0 w : World} {t r : Nat} {fp : List Nat} {ttl : Int} {vs : List KV} (h : Both w0 w t r fp ttl vs) (what : Int) (hw : -9223372036854775808 ≤ what ∧ what ≤ 9223372036854775807) (ao : Option Addr) (kn kc n : Nat) (sn st now : Int) (h0 : 0 ≤ st) (h1 : st ≤ 18446744073709551615)
    (hp : pick13 what = 7) : Calls Tryz.prog 6 #[.pointer (some ⟨t, 0, none⟩), .pointer (some ⟨r, 0, none⟩), stepV what (.slice ao kn kc) n sn st, .int .u64 now] w (RunEnd w0 t r vs.length) := by
  have H := Lib.hid h; have HW := Lib.hid hw; have HP := Lib.hid hp; clear h hw hp
  have hka := Keeps.alloc [] w (.cells #[.int .i64 what, .slice ao kn kc, .float .f64 n, .int .u64 sn, .int .u64 st] 34)
  have HKA := Lib.hid hka; clear hka
  by_cases hz : st % 4 = 0
  · go_enter Tryz.func6, Tryz.ntmps6
    go_wp2_with fail
    refine (pick_any what HW.out _).mono ?_
    rintro e w1 ⟨rfl, rfl⟩
    rw [HP.out]
    go_wp2_with fail
    have hTa := H.out.tab.keep HKA.out (by simp)
    refine (clear_tab hTa).mono ?_
    rintro e w2 ⟨rfl, fp2, hT2, hK2, hG2⟩
    obtain ⟨lv, q0, q1⟩ := (H.out.ref.keep0 HKA.out).keep_tab hTa hK2
    obtain ⟨la, lc, rfl⟩ := slice_shape5 q1
    have c0 := cell_of_heap q0 0
    have f0 := frozen_of_heap q0 0
    simp at c0
    have hk2 : Keeps [] w0 w2 := (H.out.keeps.trans HKA.out (by simp)).trans hK2 (fun x hx => .inr (H.out.fp x hx))
    have hg : ∀ x ∈ fp2, w0.heap.size ≤ x := by
      intro x hx
      rcases hG2 x hx with h | h
      · exact H.out.fp x h
      · have h1 := H.out.keeps.size; have h2 := HKA.out.size; omega
    have HT2 := Lib.hid hT2; have Q0 := Lib.hid q0; have Q1 := Lib.hid q1; have HK2 := Lib.hid hk2; have HG := Lib.hid hg
    clear hTa hT2 hK2 hG2 q0 q1 hk2 hg
    go_wp2_with fail
    go_ret
    have hs : Keeps [r] w2 (w2.setCell ⟨r, 0, none⟩ (.slice none 0 0)) := Keeps.setCell _ _ _ _ (by simp)
    refine ⟨rfl, fp2, ttl, [], ⟨HT2.out.keep_ref ⟨_, Q0.out, Q1.out⟩ hs, ⟨.slice none 0 0, ?_, World.ownsRow_nil _ _ _ _⟩, HK2.out.trans hs (by have := H.out.r; simp; omega), HG.out, H.out.r, by simp, H.out.ttl0, H.out.ttl1⟩, by simp⟩
    have := h_set_eq (i := 0) (u := .slice none 0 0) Q0.out
    simpa using this
  · go_enter Tryz.func6, Tryz.ntmps6
    go_wp2_with fail
    refine (pick_any what HW.out _).mono ?_
    rintro e w1 ⟨rfl, rfl⟩
    rw [HP.out]
    go_wp2_with fail
    go_ret
    exact ⟨rfl, fp, ttl, vs, ⟨H.out.tab.keep HKA.out (by simp), H.out.ref.keep0 HKA.out, H.out.keeps.trans HKA.out (by simp), H.out.fp, H.out.r, H.out.ok, H.out.ttl0, H.out.ttl1⟩, by omega⟩
end Go.Proofs.YthanhccpmonemaaGreatDoor
