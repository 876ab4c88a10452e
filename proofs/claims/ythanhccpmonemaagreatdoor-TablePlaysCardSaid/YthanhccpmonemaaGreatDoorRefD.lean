/- The document's Put, walked. -/
import Derived.Test.YthanhccpmonemaaGreatDoorRefC
import Derived.Test.YthanhccpmonemaaGreatDoorOrderPlain
import Derived.Deep.DeepCutAuto
namespace Go.Proofs.YthanhccpmonemaaGreatDoor
open Go.RowKit

theorem kput_new {vs : List KV} {x : KV} (h : ∀ v ∈ vs, v.key ≠ x.key) : kput x vs = vs ++ [x] := by
  have h1 : kfind x.key vs = none := kfind_not (by
    intro hm
    obtain ⟨v, hv, e⟩ := List.mem_map.1 hm
    exact h v hv e)
  unfold kput
  rw [h1]
  rfl
theorem kput_old {p q : List KV} {v x : KV} (hn : (rKeys (p ++ v :: q)).Nodup) (e : v.key = x.key) : kput x (p ++ v :: q) = p ++ x :: q := by
  have hf : (kfind x.key (p ++ v :: q)).isSome = true := by
    unfold kfind
    rw [List.find?_isSome]
    exact ⟨v, by simp, by rw [e]; exact beq_self _⟩
  have hp : ∀ u ∈ p, (x.key == u.key) = false := by
    intro u hu
    cases hb : (x.key == u.key) with
    | false => rfl
    | true =>
      have h1 := bytes_eq_of_beq hb
      unfold rKeys at hn
      rw [List.map_append, List.map_cons] at hn
      exact absurd (by rw [e, h1]) ((List.nodup_append.1 hn).2.2 u.key (List.mem_map_of_mem hu) v.key (.head _)).symm
  have hq : ∀ u ∈ q, (x.key == u.key) = false := by
    intro u hu
    cases hb : (x.key == u.key) with
    | false => rfl
    | true =>
      have h1 := bytes_eq_of_beq hb
      unfold rKeys at hn
      rw [List.map_append, List.map_cons] at hn
      have h2 := (List.nodup_cons.1 (List.nodup_append.1 hn).2.1).1
      exact absurd (by rw [e, h1]; exact List.mem_map_of_mem hu) h2
  unfold kput
  rw [hf, if_pos rfl, List.map_append, List.map_cons, e, beq_self]
  congr 1
  · exact (List.map_congr_left fun u hu => by simp [hp u hu]).trans (List.map_id _)
  · simp only [if_true]
    congr 1
    exact (List.map_congr_left fun u hu => by simp [hq u hu]).trans (List.map_id _)

/-- The row of entries, copied; and the boxed value. -/
def PutCopy (w : World) (x : KV) (vs : List KV) (s8 : Value) (wx : World) : Prop :=
  wx.ownsRow w.heap.size 66 5 s8 vs.length (kvRow vs) ∧ Keeps [] w wx ∧ wx.heap[w.heap.size]? = some (.cells #[.int .i64 x.kd, .float .f64 x.n, .string x.s] 47 (0, 0))

set_option maxRecDepth 100000 in
set_option maxHeartbeats 2000000 in
theorem rput_any {w : World} {r base : Nat} {ttl : Int} {vs : List KV} (h : RTab w r base ttl vs) (hbase : base ≤ w.heap.size) (x : KV) (hnd : (rKeys vs).Nodup) (hlen : vs.length + 1 ≤ 1000000) :
    Calls Tryz.prog 30 #[.pointer (some ⟨r, 0, none⟩), .string x.key, .agg #[.int .i64 x.kd, .float .f64 x.n, .string x.s], .int .u64 x.t] w fun e w' => e = .returned (.tuple #[]) ∧ RTab w' r base ttl (kput x vs) ∧ Keeps [r] w w' := by
  obtain ⟨i66, hi, hz0, hz1, hz2⟩ := info_parts info66
  have N66 := Lib.hid hi; have N66z := Lib.hid hz0; have N66s := Lib.hid hz1; have N66b := Lib.hid hz2; clear hi hz0 hz1 hz2
  have HND := Lib.hid hnd; clear hnd
  have hR := h
  obtain ⟨lv, hr0, hrow⟩ := h
  have hrw : r < w.heap.size := h_lt hr0
  obtain ⟨la, lc, rfl⟩ := slice_shape5 hrow
  have c0 := cell_of_heap hr0 0
  simp at c0
  have HR0 := Lib.hid hr0; have HROW := Lib.hid hrow; have HR := Lib.hid hR; clear hr0 hrow hR
  go_enter Tryz.func30, Tryz.ntmps30
  go_upto_region 1 with fail
  go_cut [8] (fun s8 wx => PutCopy w x vs s8 wx)
  case first =>
    cases la with
    | none =>
      have hv0 : vs.length = 0 := by
        rcases HROW.out.2 with ⟨_, h⟩ | ⟨g, c, cur, h, _⟩
        · exact h
        · simp at h
      have hvs := List.eq_nil_of_length_eq_zero hv0
      subst hvs
      go_wp2_with fail
      go_meet
      case rel =>
        refine ⟨?_, (Keeps.alloc [] w _).trans (Keeps.alloc [] _ _) (by simp), h_alloc (h_new _ _)⟩
        have := World.ownsRow_lit (base := w.heap.size) (size := 5) (e := 66) (w.alloc (.cells #[.int .i64 x.kd, .float .f64 x.n, .string x.s] 47)) #[] 0 (by simp) (by decide) rfl
        simpa [kvRow] using this
    | some la =>
      obtain ⟨g, rfl⟩ : ∃ g, la = ⟨g, 0, none⟩ := by
        rcases HROW.out.2 with ⟨h, _⟩ | ⟨g, c, cur, h, _⟩
        · simp at h
        · simp at h; exact ⟨g, h.1⟩
      have hg : g < w.heap.size := (HROW.out.lt g rfl).2
      have hlit : ((w.alloc (.cells #[.int .i64 x.kd, .float .f64 x.n, .string x.s] 47)).alloc (.cells #[] 66)).ownsRow w.heap.size 66 5 (.slice (some ⟨w.heap.size + 1, 0, none⟩) 0 0) 0 [] := by
        have := World.ownsRow_lit (base := w.heap.size) (size := 5) (e := 66) (w.alloc (.cells #[.int .i64 x.kd, .float .f64 x.n, .string x.s] 47)) #[] 0 (by simp) (by decide) rfl
        simpa using this
      go_wp2_with (at_builtin; refine wpList_append_own _ rfl (.tmp 10) (.tmp 14) 27 rfl w.heap.size 66 i66 (.agg #[.string ⟨#[]⟩, .int .i64 0, .float .f64 0, .string ⟨#[]⟩, .int .u64 0]) 5 56 Tryz.underlying27 N66.out N66z.out N66s.out N66b.out rfl (by decide) _ 0 [] rfl hlit ⟨g, 0, none⟩ vs.length lc (kvRow vs) rfl (kvRow_len vs) ?c1 (kvRow_one vs) ?c3 ?c4 ?c5 ?_)
      case c1 =>
        have h1 := (row_keep0 HROW.out ((Keeps.alloc [] w (.cells #[.int .i64 x.kd, .float .f64 x.n, .string x.s] 47)).trans (Keeps.alloc [] _ (.cells #[] 66)) (by simp))).cells (g := g) rfl
        simpa [Addr.add] using h1
      case c3 => simp only [maxLen]; omega
      case c4 => omega
      case c5 => first | omega | (simp; omega)
      intro v6 w6 hown6 hg6 _
      have hk6 : Keeps [] w w6 := ((Keeps.alloc [] w (.cells #[.int .i64 x.kd, .float .f64 x.n, .string x.s] 47)).trans (Keeps.alloc [] _ (.cells #[] 66)) (by simp)).trans (fp' := [w.heap.size + 1]) (Keeps.grown hg6 (by simp [Value.ownBlock])) (by simp)
      have hb6 : w6.heap[w.heap.size]? = some (.cells #[.int .i64 x.kd, .float .f64 x.n, .string x.s] 47 (0, 0)) := by
        rw [hg6.block w.heap.size (by simp; omega) (by simp [Value.ownBlock])]
        exact h_alloc (h_new _ _)
      have hcopy : PutCopy w x vs v6 w6 := ⟨by simpa using hown6, hk6, hb6⟩
      have HCOPY := Lib.hid hcopy
      clear hown6 hg6 hk6 hb6 hcopy
      go_wp2_with fail
      go_meet
      case rel => exact HCOPY.out
  case rest =>
    obtain ⟨hown, hK, hbox⟩ := hcut
    have b0 := cell_of_heap hbox 0
    have b1 := cell_of_heap hbox 1
    have b2 := cell_of_heap hbox 2
    simp at b0 b1 b2
    have hR1 := HR.out.keep0 hK
    have hr1 := hK.at HR0.out (by simp)
    have f0 := frozen_of_heap hr1 0
    have c01 := cell_of_heap hr1 0
    simp at c01
    obtain ⟨ka, kc, rfl⟩ := slice_shape5 hown
    have HOWN := Lib.hid hown; have HK := Lib.hid hK; have HBOX := Lib.hid hbox; have HR1 := Lib.hid hR1; have HRR := Lib.hid hr1
    have hsz := hK.size
    clear hown hK hbox hR1 hr1
    go_wp2_with fail
    refine (find_any HR1.out x.key (by omega)).mono ?_
    rintro e w2 ⟨z, rfl, rfl, hz⟩
    rcases hz with ⟨rfl, hno⟩ | ⟨k, v, rfl, hv, hvk⟩
    · have hkp := kput_new hno
      have HKP := Lib.hid hkp; clear hno hkp
      go_wp2_with (at_builtin; refine wpList_append_own _ rfl (.tmp 31) (.tmp 36) 27 rfl w.heap.size 66 i66 (.agg #[.string ⟨#[]⟩, .int .i64 0, .float .f64 0, .string ⟨#[]⟩, .int .u64 0]) 5 56 Tryz.underlying27 N66.out N66z.out N66s.out N66b.out rfl (by decide) _ _ _ rfl (HOWN.out.alloc _) ⟨w2.heap.size, 0, none⟩ 1 1 (kvCells x) rfl rfl ?c1 ?c2 ?c3 ?c4 ?c5 ?_)
      case c1 =>
        intro j u hj
        have := rnew_five w2 x j u hj
        have hadd : (⟨w2.heap.size, 0, none⟩ : Addr).add j = ⟨w2.heap.size, j, none⟩ := by unfold Addr.add; split <;> simp_all
        rw [hadd]
        exact this
      case c2 => exact kvRow_one [x]
      case c3 => simp only [maxLen]; omega
      case c4 => omega
      case c5 => first | omega | (simp; omega)
      intro v6 w6 hown6 hg6 _
      have hka : Keeps [] w2 (w2.alloc (.cells #[.string x.key, .int .i64 x.kd, .float .f64 x.n, .string x.s, .int .u64 x.t] 66)) := Keeps.alloc [] _ _
      have hr6 : w6.heap[r]? = some (.cells #[.slice la vs.length lc, .int .u64 ttl] 30 (0, 0)) := by
        rw [hg6.block r (by simp; omega) fun e1 => ?_]
        · exact hka.at HRR.out (by simp)
        · obtain ⟨cur, hc⟩ := own_block (HOWN.out.alloc (.cells #[.string x.key, .int .i64 x.kd, .float .f64 x.n, .string x.s, .int .u64 x.t] 66)) e1.symm
          rw [hka.at HRR.out (by simp)] at hc
          simp at hc
      have hk6 := keeps_row (HK.out.trans hka (by simp)) (HOWN.out.alloc _) hg6
      have c06 := cell_of_heap hr6 0
      have f06 := frozen_of_heap hr6 0
      simp at c06
      obtain ⟨na, nc, rfl⟩ := slice_shape5 hown6
      have HK6 := Lib.hid hk6; have HOW6 := Lib.hid hown6; have HR6 := Lib.hid hr6
      clear hk6 hown6 hr6 hg6 hka
      go_wp2_with fail
      go_end0
      have hs : Keeps [r] w6 (w6.setCell ⟨r, 0, none⟩ (.slice na (vs.length + 1) nc)) := Keeps.setCell _ _ _ _ (by simp)
      refine ⟨rfl, ⟨.slice na (vs.length + 1) nc, ?_, ?_⟩, (HK6.out.weaken (by simp)).trans hs (by simp)⟩
      · have := h_set_eq (i := 0) (u := .slice na (vs.length + 1) nc) HR6.out
        simpa using this
      · rw [HKP.out, kvRow_snoc, List.length_append]
        refine row_mono (row_of_block HOW6.out fun g hg => ?_) hbase
        obtain ⟨cur, hc⟩ := own_block HOW6.out hg
        refine hs.block g (h_lt hc) ?_
        intro hm
        simp at hm
        subst hm
        rw [HR6.out] at hc
        simp at hc
    · have hsplit : ∃ p q, vs = p ++ v :: q ∧ p.length = k := by
        obtain ⟨hk', e⟩ := List.getElem?_eq_some_iff.1 hv
        refine ⟨vs.take k, vs.drop (k + 1), ?_, by rw [List.length_take]; omega⟩
        rw [← e, ← List.drop_eq_getElem_cons hk', List.take_append_drop]
      obtain ⟨p, q, hpq, rfl⟩ := hsplit
      have hkp := kput_old (x := x) (hpq ▸ HND.out) hvk
      rw [← hpq] at hkp
      have hpl : p.length < vs.length := (List.getElem?_eq_some_iff.1 hv).1
      rcases HOWN.out.2 with ⟨_, h0⟩ | ⟨g, cap, cur, hs, hbg, hcur, hnc, hcm, hcs, htake⟩
      · omega
      · simp only [Value.slice.injEq, true_and] at hs
        obtain ⟨rfl, rfl⟩ := hs
        -- the row's cells: those ahead, the entry's, those behind
        have hL : cur.toList = kvRow p ++ (kvCells v ++ (kvRow q ++ cur.toList.drop (vs.length * 5))) := by
          have h1 := List.take_append_drop (vs.length * 5) cur.toList
          rw [htake, hpq, kvRow_append, kvRow] at h1
          rw [← hpq] at h1
          simpa [List.append_assoc] using h1.symm
        have HKP := Lib.hid hkp; have HL := Lib.hid hL; have HPQ := Lib.hid hpq; have HCUR := Lib.hid hcur; have HNC := Lib.hid hnc; have HCM := Lib.hid hcm; have HCS := Lib.hid hcs
        clear hkp hL hpq hcur hnc hcm hcs htake hv
        obtain ⟨R, hRdef⟩ : ∃ R, R = kvRow q ++ cur.toList.drop (vs.length * 5) := ⟨_, rfl⟩
        have hrow1 : cur.toList.take (p.length * 5 + 1) ++ [Value.int .i64 x.kd, .float .f64 x.n, .string x.s] ++ cur.toList.drop (p.length * 5 + 1 + 3) = kvRow p ++ ([.string v.key, .int .i64 x.kd, .float .f64 x.n, .string x.s, .int .u64 v.t] ++ R) := by
          rw [HL.out, ← hRdef]
          have e1 : p.length * 5 + 1 - (kvRow p).length = 1 := by rw [kvRow_len]; omega
          have e2 : p.length * 5 + 1 + 3 - (kvRow p).length = 4 := by rw [kvRow_len]; omega
          have e3 : (kvRow p).take (p.length * 5 + 1) = kvRow p := List.take_of_length_le (by rw [kvRow_len]; omega)
          have e4 : (kvRow p).drop (p.length * 5 + 1 + 3) = [] := List.drop_of_length_le (by rw [kvRow_len]; omega)
          rw [List.take_append, List.drop_append, e1, e2, e3, e4]
          simp [kvCells]
        have hcsz : p.length * 5 + 1 + 3 ≤ cur.size := by have := HCS.out; have := HNC.out; omega
        have HRDEF := Lib.hid hRdef; have HROW1 := Lib.hid hrow1; clear hRdef hrow1
        go_wp2_with ((with_reducible show wpList _ _ _ (Oper.mk none (.store 47 _ _) _ _ _ _ :: _) _ _); refine stT 66 g (p.length * 5 + 1) cur HCUR.out rfl (.agg #[.int .i64 x.kd, .float .f64 x.n, .string x.s]) rfl (by kernel_rfl) (by simpa [Value.cells] using hcsz) (by simp [Value.cells, Value.oneCell']) ?_)
        intro w3 hs3
        have r3 := hs3.row
        have hvc : (Value.agg #[.int .i64 x.kd, .float .f64 x.n, .string x.s]).cells.toList = [Value.int .i64 x.kd, .float .f64 x.n, .string x.s] := by simp [Value.cells]
        rw [hvc] at r3
        have hl3 : [Value.int .i64 x.kd, .float .f64 x.n, .string x.s].length = 3 := rfl
        rw [hl3, HROW1.out] at r3
        have hgr : r ≠ g := by
          intro e
          subst e
          have := HRR.out
          rw [HCUR.out] at this
          simp at this
        have hr3 := hs3.at HRR.out hgr
        have g3 := cell_of_heap r3 (p.length * 5 + 4)
        have gf3 := frozen_of_heap r3 (p.length * 5 + 4)
        have e5 : (kvRow p ++ ([Value.string v.key, .int .i64 x.kd, .float .f64 x.n, .string x.s, .int .u64 v.t] ++ R)).toArray[p.length * 5 + 4]? = some (.int .u64 v.t) := by
          rw [List.getElem?_toArray, List.getElem?_append_right (by rw [kvRow_len]; omega)]
          have : p.length * 5 + 4 - (kvRow p).length = 4 := by rw [kvRow_len]; omega
          rw [this]
          rfl
        rw [e5] at g3
        have hk3 : Keeps [] w w3 := HK.out.trans hs3.keeps (by intro y hy; simp at hy; subst hy; exact .inr hbg)
        have c03 := cell_of_heap hr3 0
        have f03 := frozen_of_heap hr3 0
        simp at c03
        have HR3 := Lib.hid r3; have HRR3 := Lib.hid hr3; have HK3 := Lib.hid hk3
        clear r3 hr3 hk3 hs3 e5 hvc hl3
        go_wp2_with fail
        go_end0
        have hs4 : Keeps [g] w3 (w3.setCell ⟨g, p.length * 5 + 4, none⟩ (.int .u64 x.t)) := Keeps.setCell _ _ _ _ (by simp)
        have hs5 : Keeps [r] (w3.setCell ⟨g, p.length * 5 + 4, none⟩ (.int .u64 x.t)) ((w3.setCell ⟨g, p.length * 5 + 4, none⟩ (.int .u64 x.t)).setCell ⟨r, 0, none⟩ (.slice (some ⟨g, 0, none⟩) vs.length kc)) := Keeps.setCell _ _ _ _ (by simp)
        have hk4 : Keeps [] w (w3.setCell ⟨g, p.length * 5 + 4, none⟩ (.int .u64 x.t)) := HK3.out.trans hs4 (by intro y hy; simp at hy; subst hy; exact .inr hbg)
        refine ⟨rfl, ⟨.slice (some ⟨g, 0, none⟩) vs.length kc, ?_, ?_⟩, (hk4.weaken (by simp)).trans hs5 (by simp)⟩
        · have h1 := h_set_ne (a := ⟨g, p.length * 5 + 4, none⟩) (u := .int .u64 x.t) hgr HRR3.out
          have h2 := h_set_eq (i := 0) (u := .slice (some ⟨g, 0, none⟩) vs.length kc) h1
          simpa using h2
        · have h1 := h_set_ne (a := ⟨r, 0, none⟩) (u := .slice (some ⟨g, 0, none⟩) vs.length kc) (Ne.symm hgr) (h_set_eq (i := p.length * 5 + 4) (u := .int .u64 x.t) HR3.out)
          have hvl : vs.length = p.length + 1 + q.length := by rw [HPQ.out]; simp; omega
          rw [HKP.out]
          have hl4 : (p ++ x :: q).length = vs.length := by rw [hvl]; simp; omega
          refine ⟨by rw [kvRow_len], .inr ⟨g, kc, _, by rw [hl4], by omega, h1, by rw [hl4]; exact HNC.out, HCM.out, ?_, ?_⟩⟩
          · have h5 := congrArg List.length HL.out
            have h6 := HCS.out
            simp only [List.length_append, Array.length_toList, kvRow_len] at h5
            have h7 : (kvCells v).length = 5 := rfl
            have h8 : R.length = (kvRow q).length + (cur.toList.drop (vs.length * 5)).length := by rw [HRDEF.out, List.length_append]
            rw [kvRow_len] at h8
            simp only [Array.size_setIfInBounds, List.size_toArray, List.length_append, kvRow_len, List.length_cons, List.length_nil]
            omega
          · rw [hl4, hvl, kvRow_append, kvRow]
            have e6 : ((kvRow p ++ ([Value.string v.key, .int .i64 x.kd, .float .f64 x.n, .string x.s, .int .u64 v.t] ++ R)).toArray.setIfInBounds (p.length * 5 + 4) (.int .u64 x.t)).toList = kvRow p ++ (kvCells x ++ R) := by
              rw [Array.toList_setIfInBounds, List.set_append_right _ _ (by rw [kvRow_len]; omega)]
              have : p.length * 5 + 4 - (kvRow p).length = 4 := by rw [kvRow_len]; omega
              rw [this]
              simp [kvCells, hvk]
            rw [e6, HRDEF.out]
            have e7 : kvRow p ++ (kvCells x ++ (kvRow q ++ cur.toList.drop (vs.length * 5))) = (kvRow p ++ (kvCells x ++ kvRow q)) ++ cur.toList.drop (vs.length * 5) := by simp [List.append_assoc]
            rw [e7]
            refine List.take_left' ?_
            simp only [List.length_append, kvRow_len]
            have h7 : (kvCells x).length = 5 := rfl
            omega
end Go.Proofs.YthanhccpmonemaaGreatDoor
