/- The document's Purge, walked. -/
import Derived.Test.YthanhccpmonemaaGreatDoorRefB
namespace Go.Proofs.YthanhccpmonemaaGreatDoor
open Go.RowKit

theorem goneV_snoc (now ttl : Int) (vs : List KV) (v : KV) : goneV now ttl (vs ++ [v]) = if ttl ≠ 0 ∧ dueB now ttl v.t = true then goneV now ttl vs ++ [v] else goneV now ttl vs := by
  unfold goneV
  by_cases h : ttl = 0
  · simp [h]
  · simp only [h, if_false, List.filter_append, ne_eq, not_false_eq_true, true_and]
    cases hd : dueB now ttl v.t <;> simp [hd]
theorem restV_snoc (now ttl : Int) (vs : List KV) (v : KV) : restV now ttl (vs ++ [v]) = if ttl ≠ 0 ∧ dueB now ttl v.t = true then restV now ttl vs else restV now ttl vs ++ [v] := by
  unfold restV
  by_cases h : ttl = 0
  · simp [h]
  · simp only [h, if_false, List.filter_append, ne_eq, not_false_eq_true, true_and]
    cases hd : dueB now ttl v.t <;> simp [hd]
theorem goneV_len (now ttl : Int) (vs : List KV) : (goneV now ttl vs).length ≤ vs.length := by
  unfold goneV; split
  · simp
  · exact List.length_filter_le _ _
theorem restV_len (now ttl : Int) (vs : List KV) : (restV now ttl vs).length ≤ vs.length := by
  unfold restV; split
  · exact Nat.le_refl _
  · exact List.length_filter_le _ _
theorem take_snoc {vs : List KV} {k : Nat} {v : KV} (h : vs[k]? = some v) : vs.take (k + 1) = vs.take k ++ [v] := by
  obtain ⟨hk, rfl⟩ := List.getElem?_eq_some_iff.1 h
  exact List.take_succ_eq_append_getElem hk
theorem kvRow_snoc (vs : List KV) (v : KV) : kvRow (vs ++ [v]) = kvRow vs ++ kvCells v := by rw [kvRow_append]; simp [kvRow]

/-- The document's table stays while a row of one's own grows. -/
theorem RTab.keep_row {w w' : World} {r base base' : Nat} {ttl : Int} {vs : List KV} {size n : Nat} {e : TypeId} {v : Value} {xs : List Value} (hR : RTab w r base ttl vs) (h : w.ownsRow base' e size v n xs) (he : e ≠ 30 ∧ e ≠ 66)
    (hg : w.grownBy w' v.ownBlock) : RTab w' r base ttl vs :=
  hR.keep fun b c e' hb he' => hg.block b (h_lt hb) fun e1 => by
    obtain ⟨cur, hc⟩ := own_block h e1.symm
    rw [hb] at hc
    simp at hc
    rcases he' with rfl | rfl
    · exact he.1 hc.2.symm
    · exact he.2 hc.2.symm
/-- Likewise a row of entries that lies behind the base. -/
theorem RTab.keep_rest {w w' : World} {r base base' : Nat} {ttl : Int} {vs : List KV} {size n : Nat} {v : Value} {xs : List Value} (hR : RTab w r base ttl vs) (h : w.ownsRow base' 66 size v n xs)
    (hn : ∀ lv : Value, w.heap[r]? = some (.cells #[lv, .int .u64 ttl] 30 (0, 0)) → ∀ g, lv.ownBlock = some g → g < base')
    (hg : w.grownBy w' v.ownBlock) : RTab w' r base ttl vs := by
  obtain ⟨lv, h0, h1⟩ := hR
  have hlt := hn lv h0
  refine ⟨lv, ?_, row_of_block h1 fun g hgb => ?_⟩
  · rw [hg.block r (h_lt h0) fun e1 => ?_]
    · exact h0
    · obtain ⟨cur, hc⟩ := own_block h e1.symm
      rw [h0] at hc
      simp at hc
  · obtain ⟨cur, hc⟩ := own_block h1 hgb
    refine hg.block g (h_lt hc) fun e1 => ?_
    have h2 := (h.lt g e1.symm).1
    have h3 := hlt g hgb
    omega

theorem rnew_five (w : World) (v : KV) : ∀ (j : Nat) (u : Value), (kvCells v)[j]? = some u → (w.alloc (.cells #[.string v.key, .int .i64 v.kd, .float .f64 v.n, .string v.s, .int .u64 v.t] 66)).cell? ⟨w.heap.size, j, none⟩ = some u := by
  intro j u hj
  rw [cell_of_heap (h_new _ _) j]
  simpa [kvCells] using hj

def RPurgeAt (w : World) (r base : Nat) (ttl now : Int) (lv : Value) (vs : List KV) (g : Nat) (out rest i : Value) (wr : World) : Prop :=
  ∃ k : Nat, k ≤ vs.length ∧ g = vs.length - k ∧ i = .int .i64 k ∧ wr.heap[r]? = some (.cells #[lv, .int .u64 ttl] 30 (0, 0)) ∧ wr.ownsRow base 66 5 lv vs.length (kvRow vs) ∧
    wr.ownsRow w.heap.size 9 1 out (goneV now ttl (vs.take k)).length ((rKeys (goneV now ttl (vs.take k))).map Value.string) ∧
    wr.ownsRow w.heap.size 66 5 rest (restV now ttl (vs.take k)).length (kvRow (restV now ttl (vs.take k))) ∧ Keeps [] w wr

set_option maxRecDepth 100000 in
set_option maxHeartbeats 2000000 in
theorem rpurge_any {w : World} {r base : Nat} {ttl now : Int} {vs : List KV} (h : RTab w r base ttl vs) (hbase : base ≤ w.heap.size) (ht0 : 0 ≤ ttl) (ht1 : ttl ≤ 18446744073709551615) (hn0 : 0 ≤ now) (hn1 : now ≤ 18446744073709551615) (hts : TB vs) (hlen : vs.length ≤ 1000000) :
    Calls Tryz.prog 23 #[.pointer (some ⟨r, 0, none⟩), .int .u64 now] w fun e w' => ∃ v, e = .returned v ∧ StrS w' v (rKeys (goneV now ttl vs)) ∧ RTab w' r base ttl (restV now ttl vs) ∧ Keeps [r] w w' := by
  obtain ⟨i9, hi, hz0, hz1, hz2⟩ := info_parts info9
  have N9 := Lib.hid hi; have N9z := Lib.hid hz0; have N9s := Lib.hid hz1; have N9b := Lib.hid hz2; clear hi hz0 hz1 hz2
  obtain ⟨i66, hi, hz0, hz1, hz2⟩ := info_parts info66
  have N66 := Lib.hid hi; have N66z := Lib.hid hz0; have N66s := Lib.hid hz1; have N66b := Lib.hid hz2; clear hi hz0 hz1 hz2
  obtain ⟨lv, hr0, hrow⟩ := h
  have hlb : ∀ g, lv.ownBlock = some g → g < w.heap.size := fun g hg => (hrow.lt g hg).2
  have hrw : r < w.heap.size := h_lt hr0
  obtain ⟨la, lc, rfl⟩ := slice_shape5 hrow
  have HR0 := Lib.hid hr0; have HROW := Lib.hid hrow; have HLB := Lib.hid hlb; have HTS := Lib.hid hts; clear hr0 hrow hlb hts
  go_enter Tryz.func23, Tryz.ntmps23
  go_wp2_with fail
  go_loopg [5, 6, 7] (vs.length) (fun g out rest i wr => RPurgeAt w r base ttl now (.slice la vs.length lc) vs g out rest i wr)
  case atStart =>
    refine ⟨0, by omega, by omega, rfl, HR0.out, HROW.out, ?_, ?_, Keeps.refl _ _⟩
    · have : goneV now ttl (vs.take 0) = [] := by unfold goneV; split <;> rfl
      rw [this]; exact World.ownsRow_nil _ _ _ _
    · have : restV now ttl (vs.take 0) = [] := by unfold restV; split <;> rfl
      rw [this]; exact World.ownsRow_nil _ _ _ _
  case round =>
    obtain ⟨k, hk, rfl, rfl, h0, h1, hout, hrest, hK⟩ := hrel
    have c0 := cell_of_heap h0 0
    have c1 := cell_of_heap h0 1
    have f0 := frozen_of_heap h0 0
    simp at c0 c1
    have hgl := goneV_len now ttl (vs.take k)
    have hrl := restV_len now ttl (vs.take k)
    rw [List.length_take] at hgl hrl
    generalize hGV : goneV now ttl (vs.take k) = gv at *
    generalize hRV : restV now ttl (vs.take k) = rv at *
    have H0 := Lib.hid h0; have H1 := Lib.hid h1; have HOUT := Lib.hid hout; have HREST := Lib.hid hrest; have HK := Lib.hid hK; have HGV := Lib.hid hGV; have HRV := Lib.hid hRV
    have hsz := hK.size
    obtain ⟨ra, rc, rfl⟩ := slice_shape5 hrest
    clear h0 h1 hout hrest hK hGV hRV
    by_cases hlt : k < vs.length
    · obtain ⟨v, hv⟩ : ∃ v, vs[k]? = some v := ⟨vs[k], List.getElem?_eq_getElem hlt⟩
      obtain ⟨g, cap, hs, hg, k0, k1, k2, k3, k4⟩ := row_entry H1.out hv
      simp only [Value.slice.injEq, true_and] at hs
      obtain ⟨rfl, rfl⟩ := hs
      obtain ⟨hvt0, hvt1⟩ := HTS.out v (List.mem_of_getElem? hv)
      have hsn := take_snoc hv
      have HSN := Lib.hid hsn; clear hsn hv
      go_wp2_with fail
      by_cases hz : ttl > 0
      · by_cases hd1 : now ≥ v.t
        · by_cases hd2 : now - v.t ≥ ttl
          · have hdb : ttl ≠ 0 ∧ dueB now ttl v.t = true := ⟨by omega, by unfold dueB; simp; omega⟩
            have HDB := Lib.hid hdb; clear hdb
            go_quiet (fail)
            have hown0 := row_keep0 HOUT.out (Keeps.drewN [] wr nq)
            go_wp2_with (at_builtin; refine wpList_append_own _ rfl (.tmp 51) (.tmp 60) 38 rfl w.heap.size 9 i9 (.string ⟨#[]⟩) 1 16 Tryz.underlying38 N9.out N9z.out N9s.out N9b.out rfl (by decide) _ _ _ rfl (hown0.alloc _) ⟨wr.heap.size, 0, none⟩ 1 1 [.string v.key] rfl rfl ?c1 ?c2 ?c3 ?c4 ?c5 ?_)
            case c1 => exact rnew_one (wr.drewN nq) _ _
            case c2 => intro u hu; simp at hu; subst hu; rfl
            case c3 => simp only [maxLen]; omega
            case c4 => omega
            case c5 => first | omega | (simp; omega)
            intro v6 w6 hown6 hg6 _
            have hka : Keeps [] wr ((wr.drewN nq).alloc (.cells #[.string v.key] 9)) := (Keeps.drewN [] wr nq).trans (Keeps.alloc [] _ _) (by simp)
            have hRT : RTab wr r base ttl vs := ⟨_, H0.out, H1.out⟩
            obtain ⟨lv6, h06, h16⟩ := (hRT.keep0 hka).keep_row (hown0.alloc (.cells #[.string v.key] 9)) (by decide) hg6
            have hlv6 : lv6 = .slice (some ⟨g, 0, none⟩) vs.length lc := by
              have := hg6.block r (by simp; have := h_lt H0.out; omega) fun e1 => by
                obtain ⟨cur, hc⟩ := own_block (hown0.alloc (.cells #[.string v.key] 9)) e1.symm
                rw [hka.at H0.out (by simp)] at hc
                simp at hc
              rw [this, hka.at H0.out (by simp)] at h06
              simp at h06
              exact h06.symm
            subst hlv6
            have hrest6 := row_keep_row (row_keep0 HREST.out hka) (hown0.alloc (.cells #[.string v.key] 9)) (by decide) hg6
            have hk6 := keeps_row (HK.out.trans hka (by simp)) (hown0.alloc _) hg6
            have HK6 := Lib.hid hk6; have HOW6 := Lib.hid hown6; have HRE6 := Lib.hid hrest6; have H06 := Lib.hid h06; have H16 := Lib.hid h16
            clear hk6 hown6 hrest6 h06 h16 hg6 hRT hka hown0
            go_wp2_with fail
            go_roundg (vs.length - (k + 1))
            case measure => omega
            case rel =>
              refine ⟨k + 1, by omega, rfl, by go_num, H06.out, H16.out, ?_, ?_, HK6.out⟩
              · rw [HSN.out, goneV_snoc, if_pos HDB.out, HGV.out, rKeys, List.map_append, List.map_append, List.length_append]
                exact HOW6.out
              · rw [HSN.out, restV_snoc, if_pos HDB.out, HRV.out]
                exact HRE6.out
          · have hdb : ¬ (ttl ≠ 0 ∧ dueB now ttl v.t = true) := by unfold dueB; simp; omega
            have HDB := Lib.hid hdb; clear hdb
            go_quiet (fail)
            have hown0 := row_keep0 HREST.out (Keeps.drewN [] wr nq)
            go_wp2_with (at_builtin; refine wpList_append_own _ rfl (.tmp 62) (.tmp 70) 27 rfl w.heap.size 66 i66 (.agg #[.string ⟨#[]⟩, .int .i64 0, .float .f64 0, .string ⟨#[]⟩, .int .u64 0]) 5 56 Tryz.underlying27 N66.out N66z.out N66s.out N66b.out rfl (by decide) _ _ _ rfl (hown0.alloc _) ⟨wr.heap.size, 0, none⟩ 1 1 (kvCells v) rfl rfl ?c1 ?c2 ?c3 ?c4 ?c5 ?_)
            case c1 => exact rnew_five (wr.drewN nq) _
            case c2 => exact kvRow_one [v]
            case c3 => simp only [maxLen]; omega
            case c4 => omega
            case c5 => first | omega | (simp; omega)
            intro v6 w6 hown6 hg6 _
            have hka : Keeps [] wr ((wr.drewN nq).alloc (.cells #[.string v.key, .int .i64 v.kd, .float .f64 v.n, .string v.s, .int .u64 v.t] 66)) := (Keeps.drewN [] wr nq).trans (Keeps.alloc [] _ _) (by simp)
            have hRT : RTab wr r base ttl vs := ⟨_, H0.out, H1.out⟩
            have h0a := hka.at H0.out (by simp)
            obtain ⟨lv6, h06, h16⟩ := (hRT.keep0 hka).keep_rest (hown0.alloc (.cells #[.string v.key, .int .i64 v.kd, .float .f64 v.n, .string v.s, .int .u64 v.t] 66)) (fun lv hl g' hg' => by
              rw [h0a] at hl
              simp at hl
              exact HLB.out g' (by rw [hl]; exact hg')) hg6
            have hlv6 : lv6 = .slice (some ⟨g, 0, none⟩) vs.length lc := by
              have := hg6.block r (by simp; have := h_lt H0.out; omega) fun e1 => by
                obtain ⟨cur, hc⟩ := own_block (hown0.alloc (.cells #[.string v.key, .int .i64 v.kd, .float .f64 v.n, .string v.s, .int .u64 v.t] 66)) e1.symm
                rw [h0a] at hc
                simp at hc
              rw [this, h0a] at h06
              simp at h06
              exact h06.symm
            subst hlv6
            have hout6 := row_keep_row (row_keep0 HOUT.out hka) (hown0.alloc (.cells #[.string v.key, .int .i64 v.kd, .float .f64 v.n, .string v.s, .int .u64 v.t] 66)) (by decide) hg6
            have hk6 := keeps_row (HK.out.trans hka (by simp)) (hown0.alloc _) hg6
            have HK6 := Lib.hid hk6; have HOW6 := Lib.hid hown6; have HOU6 := Lib.hid hout6; have H06 := Lib.hid h06; have H16 := Lib.hid h16
            clear hk6 hown6 hout6 h06 h16 hg6 hRT hka hown0 h0a
            go_wp2_with fail
            go_roundg (vs.length - (k + 1))
            case measure => omega
            case rel =>
              refine ⟨k + 1, by omega, rfl, by go_num, H06.out, H16.out, ?_, ?_, HK6.out⟩
              · rw [HSN.out, goneV_snoc, if_neg HDB.out, HGV.out]
                exact HOU6.out
              · rw [HSN.out, restV_snoc, if_neg HDB.out, HRV.out, kvRow_snoc, List.length_append]
                exact HOW6.out
        · have hdb : ¬ (ttl ≠ 0 ∧ dueB now ttl v.t = true) := by unfold dueB; simp; omega
          have HDB := Lib.hid hdb; clear hdb
          go_quiet (fail)
          have hown0 := row_keep0 HREST.out (Keeps.drewN [] wr nq)
          go_wp2_with (at_builtin; refine wpList_append_own _ rfl (.tmp 62) (.tmp 70) 27 rfl w.heap.size 66 i66 (.agg #[.string ⟨#[]⟩, .int .i64 0, .float .f64 0, .string ⟨#[]⟩, .int .u64 0]) 5 56 Tryz.underlying27 N66.out N66z.out N66s.out N66b.out rfl (by decide) _ _ _ rfl (hown0.alloc _) ⟨wr.heap.size, 0, none⟩ 1 1 (kvCells v) rfl rfl ?c1 ?c2 ?c3 ?c4 ?c5 ?_)
          case c1 => exact rnew_five (wr.drewN nq) _
          case c2 => exact kvRow_one [v]
          case c3 => simp only [maxLen]; omega
          case c4 => omega
          case c5 => first | omega | (simp; omega)
          intro v6 w6 hown6 hg6 _
          have hka : Keeps [] wr ((wr.drewN nq).alloc (.cells #[.string v.key, .int .i64 v.kd, .float .f64 v.n, .string v.s, .int .u64 v.t] 66)) := (Keeps.drewN [] wr nq).trans (Keeps.alloc [] _ _) (by simp)
          have hRT : RTab wr r base ttl vs := ⟨_, H0.out, H1.out⟩
          have h0a := hka.at H0.out (by simp)
          obtain ⟨lv6, h06, h16⟩ := (hRT.keep0 hka).keep_rest (hown0.alloc (.cells #[.string v.key, .int .i64 v.kd, .float .f64 v.n, .string v.s, .int .u64 v.t] 66)) (fun lv hl g' hg' => by
            rw [h0a] at hl
            simp at hl
            exact HLB.out g' (by rw [hl]; exact hg')) hg6
          have hlv6 : lv6 = .slice (some ⟨g, 0, none⟩) vs.length lc := by
            have := hg6.block r (by simp; have := h_lt H0.out; omega) fun e1 => by
              obtain ⟨cur, hc⟩ := own_block (hown0.alloc (.cells #[.string v.key, .int .i64 v.kd, .float .f64 v.n, .string v.s, .int .u64 v.t] 66)) e1.symm
              rw [h0a] at hc
              simp at hc
            rw [this, h0a] at h06
            simp at h06
            exact h06.symm
          subst hlv6
          have hout6 := row_keep_row (row_keep0 HOUT.out hka) (hown0.alloc (.cells #[.string v.key, .int .i64 v.kd, .float .f64 v.n, .string v.s, .int .u64 v.t] 66)) (by decide) hg6
          have hk6 := keeps_row (HK.out.trans hka (by simp)) (hown0.alloc _) hg6
          have HK6 := Lib.hid hk6; have HOW6 := Lib.hid hown6; have HOU6 := Lib.hid hout6; have H06 := Lib.hid h06; have H16 := Lib.hid h16
          clear hk6 hown6 hout6 h06 h16 hg6 hRT hka hown0 h0a
          go_wp2_with fail
          go_roundg (vs.length - (k + 1))
          case measure => omega
          case rel =>
            refine ⟨k + 1, by omega, rfl, by go_num, H06.out, H16.out, ?_, ?_, HK6.out⟩
            · rw [HSN.out, goneV_snoc, if_neg HDB.out, HGV.out]
              exact HOU6.out
            · rw [HSN.out, restV_snoc, if_neg HDB.out, HRV.out, kvRow_snoc, List.length_append]
              exact HOW6.out
      · have hdb : ¬ (ttl ≠ 0 ∧ dueB now ttl v.t = true) := by unfold dueB; simp; omega
        have HDB := Lib.hid hdb; clear hdb
        go_quiet (fail)
        have hown0 := row_keep0 HREST.out (Keeps.drewN [] wr nq)
        go_wp2_with (at_builtin; refine wpList_append_own _ rfl (.tmp 62) (.tmp 70) 27 rfl w.heap.size 66 i66 (.agg #[.string ⟨#[]⟩, .int .i64 0, .float .f64 0, .string ⟨#[]⟩, .int .u64 0]) 5 56 Tryz.underlying27 N66.out N66z.out N66s.out N66b.out rfl (by decide) _ _ _ rfl (hown0.alloc _) ⟨wr.heap.size, 0, none⟩ 1 1 (kvCells v) rfl rfl ?c1 ?c2 ?c3 ?c4 ?c5 ?_)
        case c1 => exact rnew_five (wr.drewN nq) _
        case c2 => exact kvRow_one [v]
        case c3 => simp only [maxLen]; omega
        case c4 => omega
        case c5 => first | omega | (simp; omega)
        intro v6 w6 hown6 hg6 _
        have hka : Keeps [] wr ((wr.drewN nq).alloc (.cells #[.string v.key, .int .i64 v.kd, .float .f64 v.n, .string v.s, .int .u64 v.t] 66)) := (Keeps.drewN [] wr nq).trans (Keeps.alloc [] _ _) (by simp)
        have hRT : RTab wr r base ttl vs := ⟨_, H0.out, H1.out⟩
        have h0a := hka.at H0.out (by simp)
        obtain ⟨lv6, h06, h16⟩ := (hRT.keep0 hka).keep_rest (hown0.alloc (.cells #[.string v.key, .int .i64 v.kd, .float .f64 v.n, .string v.s, .int .u64 v.t] 66)) (fun lv hl g' hg' => by
          rw [h0a] at hl
          simp at hl
          exact HLB.out g' (by rw [hl]; exact hg')) hg6
        have hlv6 : lv6 = .slice (some ⟨g, 0, none⟩) vs.length lc := by
          have := hg6.block r (by simp; have := h_lt H0.out; omega) fun e1 => by
            obtain ⟨cur, hc⟩ := own_block (hown0.alloc (.cells #[.string v.key, .int .i64 v.kd, .float .f64 v.n, .string v.s, .int .u64 v.t] 66)) e1.symm
            rw [h0a] at hc
            simp at hc
          rw [this, h0a] at h06
          simp at h06
          exact h06.symm
        subst hlv6
        have hout6 := row_keep_row (row_keep0 HOUT.out hka) (hown0.alloc (.cells #[.string v.key, .int .i64 v.kd, .float .f64 v.n, .string v.s, .int .u64 v.t] 66)) (by decide) hg6
        have hk6 := keeps_row (HK.out.trans hka (by simp)) (hown0.alloc _) hg6
        have HK6 := Lib.hid hk6; have HOW6 := Lib.hid hown6; have HOU6 := Lib.hid hout6; have H06 := Lib.hid h06; have H16 := Lib.hid h16
        clear hk6 hown6 hout6 h06 h16 hg6 hRT hka hown0 h0a
        go_wp2_with fail
        go_roundg (vs.length - (k + 1))
        case measure => omega
        case rel =>
          refine ⟨k + 1, by omega, rfl, by go_num, H06.out, H16.out, ?_, ?_, HK6.out⟩
          · rw [HSN.out, goneV_snoc, if_neg HDB.out, HGV.out]
            exact HOU6.out
          · rw [HSN.out, restV_snoc, if_neg HDB.out, HRV.out, kvRow_snoc, List.length_append]
            exact HOW6.out
    · have hke : k = vs.length := by omega
      subst hke
      clear hlt hk
      have hgv := HGV.out
      have hrv := HRV.out
      rw [List.take_length] at hgv hrv
      go_wp2_with fail
      go_ret
      have hs : Keeps [r] wr (wr.setCell ⟨r, 0, none⟩ (.slice ra rv.length rc)) := Keeps.setCell _ _ _ _ (by simp)
      refine ⟨_, rfl, ?_, ?_, (HK.out.weaken (by simp)).trans hs (by simp)⟩
      · rw [hgv]
        refine StrS.of_row (base := w.heap.size) (row_of_block (w := wr) (v := u5) ?_ fun g hg => ?_) ?_
        · simpa [rKeys] using HOUT.out
        · obtain ⟨cur, hc⟩ := own_block HOUT.out hg
          refine hs.block g (h_lt hc) ?_
          intro hm
          simp at hm
          subst hm
          rw [H0.out] at hc
          simp at hc
        · simp [rKeys]; omega
      · rw [hrv]
        refine ⟨.slice ra rv.length rc, ?_, row_mono (row_of_block HREST.out fun g hg => ?_) hbase⟩
        · have := h_set_eq (i := 0) (u := .slice ra rv.length rc) H0.out
          simpa using this
        · obtain ⟨cur, hc⟩ := own_block HREST.out hg
          refine hs.block g (h_lt hc) ?_
          intro hm
          simp at hm
          subst hm
          rw [H0.out] at hc
          simp at hc
end Go.Proofs.YthanhccpmonemaaGreatDoor
