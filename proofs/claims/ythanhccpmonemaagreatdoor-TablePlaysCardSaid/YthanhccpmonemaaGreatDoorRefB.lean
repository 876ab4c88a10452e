/- The document's Keys and Due, walked. -/
import Derived.Test.YthanhccpmonemaaGreatDoorRef
namespace Go.Proofs.YthanhccpmonemaaGreatDoor
open Go.RowKit

def rKeys (vs : List KV) : List ByteArray := vs.map (·.key)
theorem rKeys_take {vs : List KV} {k : Nat} {v : KV} (h : vs[k]? = some v) : rKeys (vs.take (k + 1)) = rKeys (vs.take k) ++ [v.key] := by
  obtain ⟨hk, rfl⟩ := List.getElem?_eq_some_iff.1 h
  show (vs.take (k + 1)).map _ = _
  rw [List.take_succ_eq_append_getElem hk, List.map_append]
  rfl
theorem rnew_one (w : World) (v : Value) (e : TypeId) : ∀ (j : Nat) (u : Value), [v][j]? = some u → (w.alloc (.cells #[v] e)).cell? ((⟨w.heap.size, 0, none⟩ : Addr).add j) = some u := by
  intro j u hj
  cases j with
  | zero => simp at hj; subst hj; exact cell_of_heap (h_new _ _) 0
  | succ j => simp at hj

def RKeysAt (w : World) (r base : Nat) (ttl : Int) (vs : List KV) (g : Nat) (out i : Value) (wr : World) : Prop :=
  ∃ k : Nat, k ≤ vs.length ∧ g = vs.length - k ∧ i = .int .i64 k ∧ RTab wr r base ttl vs ∧ wr.ownsRow w.heap.size 9 1 out k ((rKeys (vs.take k)).map Value.string) ∧ Keeps [] w wr

set_option maxHeartbeats 1000000 in
theorem rkeys_any {w : World} {r base : Nat} {ttl : Int} {vs : List KV} (h : RTab w r base ttl vs) (hlen : vs.length ≤ 1000000) :
    Calls Tryz.prog 10 #[.pointer (some ⟨r, 0, none⟩)] w fun e w' => ∃ v, e = .returned v ∧ StrS w' v (rKeys vs) ∧ Keeps [] w w' := by
  obtain ⟨i9, hi, hz0, hz1, hz2⟩ := info_parts info9
  have N9 := Lib.hid hi; have N9z := Lib.hid hz0; have N9s := Lib.hid hz1; have N9b := Lib.hid hz2; clear hi hz0 hz1 hz2
  have HR := Lib.hid h; clear h
  go_enter Tryz.func10, Tryz.ntmps10
  go_wp2_with fail
  go_loopg [3, 4] (vs.length) (fun g out i wr => RKeysAt w r base ttl vs g out i wr)
  case atStart => exact ⟨0, by omega, by omega, rfl, HR.out, World.ownsRow_nil _ _ _ _, Keeps.refl _ _⟩
  case round =>
    obtain ⟨k, hk, rfl, rfl, hR, hown, hK⟩ := hrel
    have hRt := hR
    obtain ⟨lv, h0, h1⟩ := hR
    obtain ⟨la, lc, rfl⟩ := slice_shape5 h1
    have c0 := cell_of_heap h0 0
    simp at c0
    have HOW := Lib.hid hown; have HK := Lib.hid hK; have H0 := Lib.hid h0; have HRT := Lib.hid hRt; clear hown hK h0 hRt
    by_cases hlt : k < vs.length
    · obtain ⟨v, hv⟩ : ∃ v, vs[k]? = some v := ⟨vs[k], List.getElem?_eq_getElem hlt⟩
      obtain ⟨g, cap, hs, hg, k0, _⟩ := row_entry h1 hv
      simp only [Value.slice.injEq, true_and] at hs
      obtain ⟨rfl, rfl⟩ := hs
      have HV := Lib.hid hv; clear hv h1
      go_wp2_with (at_builtin; refine wpList_append_own _ rfl (.tmp 14) (.tmp 23) 38 rfl w.heap.size 9 i9 (.string ⟨#[]⟩) 1 16 Tryz.underlying38 N9.out N9z.out N9s.out N9b.out rfl (by decide) _ _ _ rfl (HOW.out.alloc _) ⟨wr.heap.size, 0, none⟩ 1 1 [.string v.key] rfl rfl ?c1 ?c2 ?c3 ?c4 ?c5 ?_)
      case c1 => exact rnew_one _ _ _
      case c2 => intro u hu; simp at hu; subst hu; rfl
      case c3 => simp only [maxLen]; omega
      case c4 => omega
      case c5 => have := HK.out.size; simp; omega
      intro v6 w6 hown6 hg6 _
      have hk6 := keeps_row (HK.out.trans (Keeps.alloc [] wr (.cells #[.string v.key] 9)) (by simp)) (HOW.out.alloc _) hg6
      have hR6 : RTab w6 r base ttl vs := (HRT.out.keep0 (Keeps.alloc [] wr (.cells #[.string v.key] 9))).keep fun b c e hb he => hg6.block b (h_lt hb) fun e1 => by
        obtain ⟨cur, hc⟩ := own_block (HOW.out.alloc (.cells #[.string v.key] 9)) e1.symm
        rw [hb] at hc
        simp at hc
        rcases he with rfl | rfl <;> simp at hc
      have HK6 := Lib.hid hk6; have HOW6 := Lib.hid hown6; have HR6 := Lib.hid hR6
      clear hk6 hown6 hR6 hg6
      go_wp2_with fail
      go_roundg (vs.length - (k + 1))
      case measure => omega
      case rel => exact ⟨k + 1, by omega, rfl, by go_num, HR6.out, by rw [rKeys_take HV.out, List.map_append]; exact HOW6.out, HK6.out⟩
    · have hke : k = vs.length := by omega
      subst hke
      clear hlt hk
      go_wp2_with fail
      go_ret
      refine ⟨_, rfl, StrS.of_row (base := w.heap.size) ?_ (by simpa [rKeys] using hlen), HK.out⟩
      have := HOW.out
      rw [List.take_length] at this
      simpa [rKeys] using this

/-! ### Due -/
def leastL (ts : List Int) : Int := ts.foldl min 18446744073709551615
def dueR (ttl : Int) (ts : List Int) : Int := if leastL ts > 1099511627776 ∨ ttl > 1099511627776 - leastL ts then 1099511627776 else leastL ts + ttl
def dueRV (ttl : Int) (vs : List KV) : Value := if ttl = 0 ∨ vs = [] then .tuple #[.int .u64 0, .bool false] else .tuple #[.int .u64 (dueR ttl (vs.map (·.t))), .bool true]

theorem foldmin_bd : ∀ (ts : List Int) (a : Int), 0 ≤ a → a ≤ 18446744073709551615 → (∀ t ∈ ts, 0 ≤ t) → 0 ≤ ts.foldl min a ∧ ts.foldl min a ≤ 18446744073709551615
  | [], a, h0, h1, _ => ⟨h0, h1⟩
  | t :: ts, a, h0, h1, h => foldmin_bd ts (min a t) (by have := h t List.mem_cons_self; omega) (by omega) fun x hx => h x (List.mem_cons_of_mem _ hx)
theorem leastL_bd {ts : List Int} (h : ∀ t ∈ ts, 0 ≤ t) : 0 ≤ leastL ts ∧ leastL ts ≤ 18446744073709551615 := foldmin_bd ts _ (by decide) (by decide) h
theorem leastL_snoc (ts : List Int) (t : Int) : leastL (ts ++ [t]) = min (leastL ts) t := by unfold leastL; rw [List.foldl_append]; rfl

theorem dueFold_min (ttl : Int) (h0 : 1 ≤ ttl) : ∀ (ts : List Int) (a l : Int), (∀ t ∈ ts, 0 ≤ t) → l = min 1099511627776 (a + ttl) → ts.foldl (dueStep ttl) l = min 1099511627776 (ts.foldl min a + ttl)
  | [], a, l, _, e => e
  | t :: ts, a, l, h, e => by
    have ht := h t List.mem_cons_self
    refine dueFold_min ttl h0 ts (min a t) (dueStep ttl l t) (fun x hx => h x (List.mem_cons_of_mem _ hx)) ?_
    unfold dueStep
    split <;> omega
theorem due_same {ttl : Int} {vs : List KV} (h0 : 0 ≤ ttl) (h : TB vs) : dueV ttl vs = dueRV ttl vs := by
  unfold dueV dueRV
  by_cases hz : ttl = 0 ∨ vs = []
  · rw [if_pos hz, if_pos hz]
  · rw [if_neg hz, if_neg hz]
    have hts : ∀ t ∈ vs.map (·.t), 0 ≤ t := by
      intro t ht
      obtain ⟨v, hv, rfl⟩ := List.mem_map.1 ht
      exact (h v hv).1
    have e1 : dueFold ttl (vs.map (·.t)) = min 1099511627776 (leastL (vs.map (·.t)) + ttl) :=
      dueFold_min ttl (by omega) _ 18446744073709551615 1099511627776 hts (by omega)
    have e2 : dueR ttl (vs.map (·.t)) = min 1099511627776 (leastL (vs.map (·.t)) + ttl) := by
      unfold dueR
      split <;> omega
    rw [e1, e2]

set_option maxHeartbeats 1000000 in
theorem rdue_any {w : World} {r base : Nat} {ttl : Int} {vs : List KV} (h : RTab w r base ttl vs) (h0 : 0 ≤ ttl) (h1 : ttl ≤ 18446744073709551615) (hts : TB vs) (hlen : vs.length ≤ 1000000) :
    Calls Tryz.prog 25 #[.pointer (some ⟨r, 0, none⟩)] w fun e w' => e = .returned (dueRV ttl vs) ∧ w' = w := by
  obtain ⟨lv, hh0, hh1⟩ := h
  obtain ⟨la, lc, rfl⟩ := slice_shape5 hh1
  have c0 := cell_of_heap hh0 0
  have c1 := cell_of_heap hh0 1
  simp at c0 c1
  have HR := Lib.hid hh1; have HTS := Lib.hid hts; clear hh0 hh1 hts
  by_cases hz : ttl = 0
  · subst hz
    go_enter Tryz.func25, Tryz.ntmps25
    go_wp2_with fail
    go_ret2
    exact ⟨by simp [dueRV], rfl⟩
  · by_cases hn : vs = []
    · subst hn
      go_enter Tryz.func25, Tryz.ntmps25
      go_wp2_with fail
      go_ret2
      exact ⟨by simp [dueRV], rfl⟩
    · have hlp : 0 < vs.length := List.length_pos_iff.2 hn
      have hfin : dueRV ttl vs = .tuple #[.int .u64 (dueR ttl (vs.map (·.t))), .bool true] := by simp [dueRV, hz, hn]
      have HFIN := Lib.hid hfin; clear hfin
      have htz : (ttl == 0) = false := by rw [beq_eq_false_iff_ne]; exact hz
      have hlz : ((vs.length : Int) == 0) = false := by rw [beq_eq_false_iff_ne]; omega
      go_enter Tryz.func25, Tryz.ntmps25
      go_wp2_with fail
      go_loop [4, 5] (fun l i => ∃ k : Nat, k ≤ vs.length ∧ i = .int .i64 k ∧ l = .int .u64 (leastL ((vs.take k).map (·.t)))) (fun _ i => vs.length - (intOf i).toNat)
      case atStart => exact ⟨0, by omega, rfl, rfl⟩
      case round =>
        obtain ⟨k, hk, rfl, rfl⟩ := hrel
        have hb := leastL_bd (ts := (vs.take k).map (·.t)) (by
          intro t ht
          obtain ⟨v, hv, rfl⟩ := List.mem_map.1 ht
          exact (HTS.out v (List.mem_of_mem_take hv)).1)
        generalize hL : leastL ((vs.take k).map (·.t)) = L at *
        obtain ⟨hL0, hL1⟩ := hb
        have HL := Lib.hid hL; clear hL
        by_cases hlt : k < vs.length
        · obtain ⟨v, hv⟩ : ∃ v, vs[k]? = some v := ⟨vs[k], List.getElem?_eq_getElem hlt⟩
          obtain ⟨g, cap, hs, hg, k0, _, _, _, k4⟩ := row_entry HR.out hv
          simp only [Value.slice.injEq, true_and] at hs
          obtain ⟨rfl, rfl⟩ := hs
          obtain ⟨ht0, ht1⟩ := HTS.out v (List.mem_of_getElem? hv)
          have hsn : leastL ((vs.take (k + 1)).map (·.t)) = min L v.t := by
            obtain ⟨hk', e⟩ := List.getElem?_eq_some_iff.1 hv
            rw [List.take_succ_eq_append_getElem hk', List.map_append, List.map_singleton, leastL_snoc, HL.out, e]
          have HSN := Lib.hid hsn; clear hsn hv k0
          go_wp2_with fail
          all_goals refine ⟨⟨k + 1, by omega, by go_num, by rw [HSN.out]; first | rfl | (congr 1; omega)⟩, by simp [intOf]; omega⟩
        · have hke : k = vs.length := by omega
          subst hke
          have hL := HL.out
          rw [List.take_length] at hL
          have hdr : dueR ttl (vs.map (·.t)) = if L > 1099511627776 ∨ ttl > 1099511627776 - L then 1099511627776 else L + ttl := by unfold dueR; rw [hL]
          have HDR := Lib.hid hdr
          clear hlt hk hL HL hdr
          by_cases ha : L > 1099511627776
          · go_wp2_with fail
            go_ret2
            refine ⟨?_, rfl⟩
            show Ending.returned (.tuple #[.int .u64 1099511627776, .bool true]) = _
            rw [HFIN.out, HDR.out, if_pos (.inl ha)]
          · by_cases hb : ttl > 1099511627776 - L
            · go_wp2_with fail
              go_ret2
              refine ⟨?_, rfl⟩
              show Ending.returned (.tuple #[.int .u64 1099511627776, .bool true]) = _
              rw [HFIN.out, HDR.out, if_pos (.inr hb)]
            · go_wp2_with fail
              go_ret2
              refine ⟨?_, rfl⟩
              show Ending.returned (.tuple #[.int .u64 (L + ttl), .bool true]) = _
              rw [HFIN.out, HDR.out, if_neg (by omega)]
end Go.Proofs.YthanhccpmonemaaGreatDoor
