/- run's Purge, walked. -/
import Derived.Test.YthanhccpmonemaaGreatDoorRun
namespace Go.Proofs.YthanhccpmonemaaGreatDoor
open Go.RowKit

/-- Strings stay while the document's table is worked on. -/
theorem StrS.keep_rtab {w w' : World} {v : Value} {ss : List ByteArray} {r base : Nat} {ttl : Int} {vs : List KV} (h : StrS w v ss) (hR : RTab w r base ttl vs) (hk : Keeps [r] w w') : StrS w' v ss := by
  obtain ⟨lv, h0, hrow⟩ := hR
  obtain ⟨la, lc, rfl⟩ := slice_shape5 hrow
  obtain ⟨h1, h⟩ := h
  refine ⟨h1, ?_⟩
  rcases h with h | ⟨g, o, cap, rfl, hc⟩
  · exact .inl h
  · refine .inr ⟨g, o, cap, rfl, fun j hj => ?_⟩
    have hcj := hc j hj
    have hg : g < w.heap.size := World.block_lt_of_cell? w ⟨g, o + j, none⟩ hcj
    have hgr : g ∉ [r] := by
      intro hm
      simp at hm
      subst hm
      rw [cell_of_heap h0] at hcj
      rcases hoj : o + j with _ | _ | n <;> rw [hoj] at hcj <;> simp at hcj
    exact (World.cell?_of_block (a := ⟨g, o + j, none⟩) (hk.block g hg hgr)).trans hcj
theorem restV_mem {now ttl : Int} {vs : List KV} {v : KV} (h : v ∈ restV now ttl vs) : v ∈ vs := by
  unfold restV at h
  split at h
  · exact h
  · exact (List.mem_filter.1 h).1

set_option maxRecDepth 100000 in
set_option maxHeartbeats 4000000 in
theorem run_purge {w0 w : World} {t r : Nat} {fp : List Nat} {ttl : Int} {vs : List KV} (h : Both w0 w t r fp ttl vs) (hlen : vs.length ≤ 1000) (what : Int) (hw : -9223372036854775808 ≤ what ∧ what ≤ 9223372036854775807) (ao : Option Addr) (kn kc n : Nat) (sn st now : Int) (hn0 : 0 ≤ now) (hn1 : now ≤ 18446744073709551615)
    (hp : pick13 what = 9 ∨ pick13 what = 10) : Calls Tryz.prog 6 #[.pointer (some ⟨t, 0, none⟩), .pointer (some ⟨r, 0, none⟩), stepV what (.slice ao kn kc) n sn st, .int .u64 now] w (RunEnd w0 t r vs.length) := by
  have ht0 := h.ttl0
  have ht1 := h.ttl1
  have htb := VOK.TB h.ok
  have hrl := restV_len now ttl vs
  have H := Lib.hid h; have HW := Lib.hid hw; have HTB := Lib.hid htb; have HRL := Lib.hid hrl; clear h hw htb hrl
  have hka := Keeps.alloc [] w (.cells #[.int .i64 what, .slice ao kn kc, .float .f64 n, .int .u64 sn, .int .u64 st] 34)
  have HKA := Lib.hid hka; clear hka
  go_enter Tryz.func6, Tryz.ntmps6
  go_wp2_with fail
  refine (pick_any what HW.out _).mono ?_
  rintro e w1 ⟨rfl, rfl⟩
  rcases hp with hp | hp
  all_goals
    rw [hp]
    go_wp2_with fail
    have hTa := H.out.tab.keep HKA.out (by simp)
    refine (purge_tab hTa now ht0 (by omega) hn0 hn1 HTB.out (by omega)).mono ?_
    rintro e w2 ⟨v2, fp2, rfl, hS2, hT2, hK2, hG2⟩
    have hR2 := (H.out.ref.keep0 HKA.out).keep_tab hTa hK2
    have hk2 : Keeps [] w0 w2 := (H.out.keeps.trans HKA.out (by simp)).trans hK2 (fun x hx => .inr (H.out.fp x hx))
    have hg : ∀ x ∈ fp2, w0.heap.size ≤ x := by
      intro x hx
      rcases hG2 x hx with h | h
      · exact H.out.fp x h
      · have h1 := H.out.keeps.size; have h2 := HKA.out.size; omega
    have HS2 := Lib.hid hS2; have HT2 := Lib.hid hT2; have HR2 := Lib.hid hR2; have HK2 := Lib.hid hk2; have HG := Lib.hid hg
    clear hTa hS2 hT2 hK2 hG2 hR2 hk2 hg
    go_wp2_with fail
    refine (rpurge_any HR2.out HK2.out.size ht0 (by omega) hn0 hn1 HTB.out (by omega)).mono ?_
    rintro e w3 ⟨v3, rfl, hS3, hR3, hK3⟩
    have HS23 := Lib.hid (HS2.out.1.keep_rtab HR2.out hK3); have HT3 := Lib.hid (HT2.out.keep_ref HR2.out hK3)
    have HS3 := Lib.hid hS3; have HR3 := Lib.hid hR3
    have HK3 := Lib.hid (HK2.out.trans hK3 (fun x hx => by simp at hx; subst hx; exact .inr H.out.r))
    clear hS3 hR3 hK3
    go_wp2_with fail
    refine (strs_any HS23.out HS3.out).mono ?_
    rintro e w4 ⟨he, q, rfl⟩
    rw [show strsEq ((goneV now ttl vs).map (·.key)) (rKeys (goneV now ttl vs)) = true from strsEq_true rfl] at he
    subst he
    go_wp2_with fail
    go_ret
    exact ⟨rfl, fp2, ttl, restV now ttl vs, ⟨HT3.out.keep (Keeps.drewN [] w3 q) (by simp), HR3.out.keep0 (Keeps.drewN [] w3 q), HK3.out.trans (Keeps.drewN [] w3 q) (by simp), HG.out, H.out.r, fun v hv => H.out.ok v (restV_mem hv), ht0, ht1⟩, by have := HRL.out; omega⟩
end Go.Proofs.YthanhccpmonemaaGreatDoor
