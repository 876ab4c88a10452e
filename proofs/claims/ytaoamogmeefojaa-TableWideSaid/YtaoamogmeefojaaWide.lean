/- TableWide, walked. -/
import Derived.Test.YtaoamogmeefojaaRefD
import Derived.Test.YtaoamogmeefojaaLives
namespace Go.Proofs.Ytaoamogmeefojaa
open Go.RowKit

abbrev wF (i : Nat) : Nat := zClean (fl i)

theorem Tab.nodup {w : World} {t : Nat} {fp : List Nat} {ttl : Int} {vs : List KV} (h : Tab w t fp ttl vs) : (rKeys vs).Nodup := by
  obtain ⟨m, es, l, clock, hr, _, rfl⟩ := h
  have := hr.keys
  simpa [rKeys, Ent.vis, Function.comp_def] using this

/-- Strings stay while the document's table is worked on. -/
theorem StrS.keep_ref {w w' : World} {v : Value} {ss : List ByteArray} {r : Nat} {lv : Value} {ttl : Int} (h : StrS w v ss) (h0 : w.heap[r]? = some (.cells #[lv, .int .u64 ttl] 48 (0, 0))) (hl : ∀ s, lv ≠ .string s) (hk : Keeps [r] w w') : StrS w' v ss := by
  obtain ⟨h1, h⟩ := h
  refine ⟨h1, ?_⟩
  rcases h with h | ⟨g, o, cap, rfl, hc⟩
  · exact .inl h
  · refine .inr ⟨g, o, cap, rfl, fun j hj => ?_⟩
    have hcj := hc j hj
    have hg : g < w.heap.size := World.block_lt_of_cell? w ⟨g, o + j, none⟩ hcj
    have hgr : g ∉ [r] := by
      intro hm
      simp at hm
      subst hm
      rw [cell_of_heap h0] at hcj
      rcases hoj : o + j with _ | _ | n <;> rw [hoj] at hcj <;> simp at hcj
      exact hl _ hcj
    exact (World.cell?_of_block (a := ⟨g, o + j, none⟩) (hk.block g hg hgr)).trans hcj
theorem StrS.keep_rtab {w w' : World} {v : Value} {ss : List ByteArray} {r base : Nat} {ttl : Int} {vs : List KV} (h : StrS w v ss) (hR : RTab w r base ttl vs) (hk : Keeps [r] w w') : StrS w' v ss := by
  obtain ⟨lv, h0, h1⟩ := hR
  obtain ⟨a, c, rfl⟩ := slice_shape5 h1
  exact h.keep_ref h0 (by intro s; simp) hk

/-- A round of the loop: k entries are put in both. -/
def WideAt (w : World) (t r : Nat) (ttl : Int) (zs : List Int) (g : Nat) (i : Value) (wr : World) : Prop :=
  ∃ k : Nat, k ≤ zs.length ∧ g = zs.length - k ∧ i = .int .i64 k ∧
    ∃ fp, Tab wr t fp ttl (vsL wF (zs.take k)) ∧ RTab wr r w.heap.size ttl (vsL wF (zs.take k)) ∧ Keeps [] w wr ∧ ∀ x ∈ fp, w.heap.size ≤ x
def WideMid (w : World) (t r : Nat) (ttl : Int) (zs : List Int) (z : Int) (wr : World) : Prop :=
  ∃ fp, Tab wr t fp ttl (vsL wF (zs ++ [z])) ∧ RTab wr r w.heap.size ttl (vsL wF zs) ∧ Keeps [] w wr ∧ ∀ x ∈ fp, w.heap.size ≤ x

set_option maxRecDepth 100000 in
set_option maxHeartbeats 4000000 in
theorem wide_walk (w : World) (T N : Int) (v : Value) (zs : List Int) (hT0 : 0 ≤ T) (hT1 : T ≤ 18446744073709551615) (hN0 : 0 ≤ N) (hN1 : N ≤ 18446744073709551615) (hv : U64S w v zs) :
    Calls Try.prog 4 #[v, .int .u64 T, .int .u64 N] w fun e w' => e = .returned (.bool true) ∧ Keeps [] w w' := by
  obtain ⟨hz, hzl, a, cap, rfl, hc⟩ := hv
  have HZ := Lib.hid hz; have HC := Lib.hid hc; clear hz hc
  go_enter Try.func4, Try.ntmps4
  go_wp2_with fail
  refine (new_tab w).mono ?_
  rintro e w1 ⟨t, fp1, rfl, hT1', hK1, hF1⟩
  go_wp2_with fail
  refine (known_any w1).mono ?_
  rintro e w2 ⟨rfl, hK2⟩
  have hT2 := hT1'.keep hK2 (by simp)
  have hk2 : Keeps [] w w2 := hK1.trans hK2 (by simp)
  have HT2 := Lib.hid hT2; have HK2 := Lib.hid hk2; have HF1 := Lib.hid hF1; clear hT1' hK1 hK2 hT2 hk2 hF1
  go_wp2_with fail
  have hTa := HT2.out.keep (Keeps.alloc [] w2 (.cells #[.slice none 0 0, .int .u64 T] 48)) (by simp)
  refine (expire_tab hTa T).mono ?_
  rintro e w3 ⟨rfl, hT3, hK3⟩
  have hR3 : RTab w3 w2.heap.size w.heap.size T [] := by
    have h0 : RTab (w2.alloc (.cells #[.slice none 0 0, .int .u64 T] 48)) w2.heap.size w.heap.size T [] := ⟨_, h_new _ _, World.ownsRow_nil _ _ _ _⟩
    exact h0.keep_tab hTa hK3
  have hk3 : Keeps [] w w3 := (HK2.out.trans (Keeps.alloc [] w2 _) (by simp)).trans hK3 (fun x hx => .inr (HF1.out x hx))
  have hrb : w.heap.size ≤ w2.heap.size := HK2.out.size
  generalize hr : w2.heap.size = r at *
  clear hTa hK3 HK2 HT2 hr
  have HT3 := Lib.hid hT3; have HR3 := Lib.hid hR3; have HK3 := Lib.hid hk3; clear hT3 hR3 hk3
  go_wp2_with fail
  obtain ⟨ps, hps⟩ : ∃ ps, ps = zs.take 20 := ⟨_, rfl⟩
  have hpl : ps.length = min zs.length 20 := by rw [hps, List.length_take]; omega
  have hpz : ∀ j (h : j < ps.length), ∃ h' : j < zs.length, ps[j] = zs[j] := fun j h => ⟨by omega, by subst hps; simp⟩
  have hpb : ∀ z ∈ ps, 0 ≤ z ∧ z ≤ 18446744073709551615 := fun z hz => HZ.out z (List.mem_of_mem_take (hps ▸ hz))
  have HPZ := Lib.hid hpz; have HPB := Lib.hid hpb; clear hps hpz hpb
  go_loopg [9, 10] (ps.length) (fun g i _ wr => WideAt w t r T ps g i wr)
  case atStart => exact ⟨0, by omega, by omega, rfl, fp1, HT3.out, HR3.out, HK3.out, HF1.out⟩
  case round =>
    obtain ⟨k, hk, rfl, rfl, fp, hT, hR, hK, hF⟩ := hrel
    have HT := Lib.hid hT; have HR := Lib.hid hR; have HK := Lib.hid hK; have HF := Lib.hid hF; clear hT hR hK hF
    by_cases hkn : k < ps.length
    · have hk1 : k < zs.length := by omega
      have hk2 : k < 20 := by omega
      obtain ⟨ga, oa, hao, hga, hca⟩ := HC.out k hk1
      subst hao
      have hcw := HK.out.cell hga hca
      have hzb := HZ.out zs[k] (List.getElem_mem _)
      generalize hzk : zs[k] = z at *
      have hsn : ps.take (k + 1) = ps.take k ++ [z] := by
        rw [List.take_succ_eq_append_getElem hkn]
        obtain ⟨_, e⟩ := HPZ.out k hkn
        rw [e, hzk]
      have HSN := Lib.hid hsn; have HCA := Lib.hid hca; clear hzk hca hsn
      obtain ⟨hz0, hz1⟩ := hzb
      have hgw : ga < wr.heap.size := Nat.lt_of_lt_of_le hga HK.out.size
      have hw1 : IntKind.i64.wrap (97 + (k : Int)) = 97 + (k : Int) := IntWalk.i64_in _ (by omega)
      have hw2 : IntKind.u8.wrap (97 + (k : Int)) = 97 + (k : Int) := IntWalk.u8_in _ (by omega)
      have hcv := conv_kI k
      go_upto_region 10 with fail
      have hcq := (Keeps.alloc [] wr (.cells #[.int .u8 (97 + (k : Int))] 5)).cell hgw hcw
      have hgq : ga < (wr.alloc (.cells #[.int .u8 (97 + (k : Int))] 5)).heap.size := by simp; omega
      have hkq := Keeps.alloc [] wr (.cells #[.int .u8 (97 + (k : Int))] 5)
      generalize wr.alloc (.cells #[.int .u8 (97 + (k : Int))] 5) = wq at *
      have HKQ := Lib.hid hkq; clear hkq hcw
      go_cut [10] (fun s10 wx => s10 = .string (kI k) ∧ WideMid w t r T (ps.take k) z wx)
      case first =>
        have hTW : ∀ W, Keeps [] wq W → Tab W t fp T (vsL wF (ps.take k)) := fun W hW => HT.out.keep (HKQ.out.trans hW (by simp)) (by simp)
        go_region_with (first | (go_at_call 12; refine (num_any _ _).mono ?_; rintro e w' ⟨rfl, hk1⟩; have hcx : w'.cell? ⟨ga, oa + k, none⟩ = some (.int .u64 z) := hk1.cell hgq hcq) | (go_at_call 11; go_loud (refine (put_tab (hTW _ (by first | exact hk1 | exact (Keeps.drew [] wq).trans hk1 (by simp) | exact hk1.trans (Keeps.drew [] _) (by simp) | exact ((Keeps.drew [] wq).trans hk1 (by simp)).trans (Keeps.drew [] _) (by simp))) (kvI wF k z)).mono ?_); rintro e w2' ⟨rfl, fp2, hT2, hK2, hG2⟩))
        all_goals
          have hk0 : Keeps [] wr w' := (HKQ.out.trans (Keeps.drew [] wq) (by simp)).trans hk1 (by simp)
          have hT0 := HT.out.keep hk0 (by simp)
          have hR0 := (HR.out.keep0 hk0).keep_tab hT0 hK2
          have hk2 : Keeps [] w w2' := (HK.out.trans hk0 (by simp)).trans hK2 (fun x hx => .inr (HF.out x hx))
          have hF2 : ∀ x ∈ fp2, w.heap.size ≤ x := by
            intro x hx
            rcases hG2 x hx with h | h
            · exact HF.out x h
            · have h1 := hk0.size; have h2 := HK.out.size; omega
          have hT2' : Tab w2' t fp2 T (vsL wF (ps.take k ++ [z])) := by
            have hl : (ps.take k).length = k := by rw [List.length_take]; omega
            have h1 := kput_vsL wF (ps.take k) z (by omega)
            rw [hl] at h1
            rw [← h1]
            exact hT2
          have hmid : WideMid w t r T (ps.take k) z w2' := ⟨fp2, hT2', hR0, hk2, hF2⟩
          have HMID := Lib.hid hmid
          clear hk0 hT0 hR0 hk2 hF2 hT2' hmid hT2 hK2 hG2 hk1 hcx hTW
          go_wp2_with fail
          go_meet
          case rel => exact ⟨rfl, HMID.out⟩
      case rest =>
        obtain ⟨rfl, fp2, hT2, hR2, hK2, hF2⟩ := hcut
        have hcc := hK2.cell hga HCA.out
        have hgc : ga < wc.heap.size := Nat.lt_of_lt_of_le hga hK2.size
        have hl : (ps.take k).length = k := by rw [List.length_take]; omega
        have hkp := kput_vsL wF (ps.take k) z (by omega)
        rw [hl] at hkp
        rw [← HSN.out] at hkp
        have hnd := HT.out.nodup
        have hvl : (vsL wF (ps.take k)).length = k := by rw [vsL, vsFrom_length]; exact hl
        have hPut : ∀ W, Keeps [] wc W → Calls Try.prog 17 #[.pointer (some ⟨r, 0, none⟩), .string (kvI wF k z).key, .agg #[.int .i64 (kvI wF k z).kd, .float .f64 (kvI wF k z).n, .string (kvI wF k z).s], .int .u64 (kvI wF k z).t] W fun e w' => e = .returned (.tuple #[]) ∧ RTab w' r w.heap.size T (kput (kvI wF k z) (vsL wF (ps.take k))) ∧ Keeps [r] W w' :=
          fun W hW => rput_any (hR2.keep0 hW) (by have h1 := hK2.size; have h2 := hW.size; omega) (kvI wF k z) hnd (by omega)
        rw [hkp] at hPut
        rw [← HSN.out] at hT2
        have HT2 := Lib.hid hT2; have HR2 := Lib.hid hR2; have HK2 := Lib.hid hK2; have HF2 := Lib.hid hF2
        clear hkp hnd hvl hT2 hR2 hK2 hF2 hl hcq hgq hcv hw1 hw2
        go_upto_region 11 with fail
        go_region_with (first | (go_at_call 12; refine (num_any _ _).mono ?_; rintro e w' ⟨rfl, hk1⟩; have hcx : w'.cell? ⟨ga, oa + k, none⟩ = some (.int .u64 z) := hk1.cell hgc hcc) | (go_at_call 17; go_loud (refine (hPut _ (by first | exact hk1 | exact (Keeps.drew [] wc).trans hk1 (by simp) | exact hk1.trans (Keeps.drew [] _) (by simp) | exact ((Keeps.drew [] wc).trans hk1 (by simp)).trans (Keeps.drew [] _) (by simp))).mono ?_); rintro e w2' ⟨rfl, hR3, hK3⟩))
        all_goals
          have hk0 : Keeps [] wc w' := (Keeps.drew [] wc).trans hk1 (by simp)
          have hT0 := (HT2.out.keep hk0 (by simp)).keep_ref (HR2.out.keep0 hk0) hK3
          have hk3 : Keeps [] w w2' := (HK2.out.trans hk0 (by simp)).trans hK3 (fun x hx => by simp at hx; subst hx; exact .inr hrb)
          have HT0 := Lib.hid hT0; have HR3' := Lib.hid hR3; have HK3' := Lib.hid hk3
          clear hk0 hT0 hk3 hR3 hK3 hk1 hcx hPut
          go_wp2_with fail
          go_roundg (ps.length - (k + 1))
          case measure => omega
          case rel => exact ⟨k + 1, by omega, rfl, by go_num, fp2, HT0.out, HR3'.out, HK3'.out, HF2.out⟩
    · have hke : k = ps.length := by omega
      subst hke
      have hT' := HT.out
      have hR' := HR.out
      rw [List.take_length] at hT' hR'
      have htb : TB (vsL wF ps) := vsL_TB HPB.out
      have hlen : (vsL wF ps).length ≤ 20 := by rw [vsL, vsFrom_length]; omega
      generalize vsL wF ps = vs at *
      obtain ⟨D, B, hD⟩ : ∃ D B, dueV T vs = .tuple #[.int .u64 D, .bool B] := by
        unfold dueV
        split
        · exact ⟨_, _, rfl⟩
        · exact ⟨_, _, rfl⟩
      have HT' := Lib.hid hT'; have HR' := Lib.hid hR'; have HTB := Lib.hid htb; have HLEN := Lib.hid hlen; have HD := Lib.hid hD
      clear hT' hR' htb hlen hD hkn hk
      by_cases ha : ps.length < zs.length
      · have hb : ¬ ps.length < 20 := by omega
        go_wp2_with fail
        refine (due_tab HT'.out hT0 hT1 HTB.out).mono ?_
        rintro e w4 ⟨he, n4, rfl⟩
        rw [HD.out] at he
        subst he
        have hT4 := HT'.out.keep (Keeps.drewN [] wr n4) (by simp)
        have hR4 := HR'.out.keep0 (Keeps.drewN [] wr n4)
        have hk4 : Keeps [] w (wr.drewN n4) := HK.out.trans (Keeps.drewN [] wr n4) (by simp)
        generalize wr.drewN n4 = w4 at *
        have HT4 := Lib.hid hT4; have HR4 := Lib.hid hR4; have HK4 := Lib.hid hk4; clear hT4 hR4 hk4
        go_wp2_with fail
        refine (rdue_any HR4.out hT0 hT1 HTB.out (by have := HLEN.out; omega)).mono ?_
        rintro e w5 ⟨he, rfl⟩
        rw [← due_same hT0 HTB.out, HD.out] at he
        subst he
        cases B
        all_goals
          go_wp2_with fail
          refine (purge_tab HT4.out N hT0 hT1 hN0 hN1 HTB.out (by have := HLEN.out; omega)).mono ?_
          rintro e w6 ⟨v6, fp6, rfl, hS6, hT6, hK6, hG6⟩
          have hR6 := HR4.out.keep_tab HT4.out hK6
          have hk6 : Keeps [] w w6 := HK4.out.trans hK6 (fun x hx => .inr (HF.out x hx))
          have HS6 := Lib.hid hS6; have HT6 := Lib.hid hT6; have HR6 := Lib.hid hR6; have HK6 := Lib.hid hk6
          have HLR := Lib.hid (restV_len N T vs)
          clear hS6 hT6 hR6 hK6 hk6 hG6
          go_wp2_with fail
          refine (rpurge_any HR6.out (by have := HK6.out.size; omega) hT0 hT1 hN0 hN1 HTB.out (by have := HLEN.out; omega)).mono ?_
          rintro e w7 ⟨v7, rfl, hS7, hR7, hK7⟩
          have hS67 := HS6.out.1.keep_rtab HR6.out hK7
          have hT7 := HT6.out.keep_ref HR6.out hK7
          have hk7 : Keeps [] w w7 := HK6.out.trans hK7 (fun x hx => by simp at hx; subst hx; exact .inr hrb)
          have HS7 := Lib.hid hS7; have HS67 := Lib.hid hS67; have HT7 := Lib.hid hT7; have HR7 := Lib.hid hR7; have HK7 := Lib.hid hk7
          clear hS7 hS67 hT7 hR7 hK7 hk7
          go_wp2_with fail
          refine (strs_any HS67.out HS7.out).mono ?_
          rintro e w8 ⟨he, n8, rfl⟩
          rw [show strsEq ((goneV N T vs).map (·.key)) (rKeys (goneV N T vs)) = true from strsEq_true rfl] at he
          subst he
          have hT8 := HT7.out.keep (Keeps.drewN [] w7 n8) (by simp)
          have hR8 := HR7.out.keep0 (Keeps.drewN [] w7 n8)
          have hk8 : Keeps [] w (w7.drewN n8) := HK7.out.trans (Keeps.drewN [] w7 n8) (by simp)
          generalize w7.drewN n8 = w8 at *
          have HT8 := Lib.hid hT8; have HR8 := Lib.hid hR8; have HK8 := Lib.hid hk8; clear hT8 hR8 hk8
          go_wp2_with fail
          refine (keys_tab HT8.out (by have := HLEN.out; have := HLR.out; omega)).mono ?_
          rintro e w9 ⟨v9, rfl, hS9, hT9, hK9⟩
          have hR9 := HR8.out.keep0 hK9
          have hk9 : Keeps [] w w9 := HK8.out.trans hK9 (by simp)
          have HS9 := Lib.hid hS9; have HR9 := Lib.hid hR9; have HK9 := Lib.hid hk9
          clear hS9 hT9 hK9 hR9 hk9
          go_wp2_with fail
          refine (rkeys_any HR9.out (by have := HLEN.out; have := HLR.out; omega)).mono ?_
          rintro e w10 ⟨v10, rfl, hS10, hK10⟩
          have hS9' := (HS9.out.keep0 hK10).1
          have hk10 : Keeps [] w w10 := HK9.out.trans hK10 (by simp)
          have HS9' := Lib.hid hS9'; have HS10 := Lib.hid hS10; have HK10 := Lib.hid hk10
          clear hS9' hS10 hK10 hk10
          go_wp2_with fail
          refine (strs_any HS9'.out HS10.out).mono ?_
          rintro e w11 ⟨he, n11, rfl⟩
          rw [show strsEq ((restV N T vs).map (·.key)) (rKeys (restV N T vs)) = true from strsEq_true rfl] at he
          subst he
          go_wp2_with fail
          go_ret
          exact ⟨rfl, HK10.out.trans (Keeps.drewN [] w10 n11) (by simp)⟩
      · go_wp2_with fail
        refine (due_tab HT'.out hT0 hT1 HTB.out).mono ?_
        rintro e w4 ⟨he, n4, rfl⟩
        rw [HD.out] at he
        subst he
        have hT4 := HT'.out.keep (Keeps.drewN [] wr n4) (by simp)
        have hR4 := HR'.out.keep0 (Keeps.drewN [] wr n4)
        have hk4 : Keeps [] w (wr.drewN n4) := HK.out.trans (Keeps.drewN [] wr n4) (by simp)
        generalize wr.drewN n4 = w4 at *
        have HT4 := Lib.hid hT4; have HR4 := Lib.hid hR4; have HK4 := Lib.hid hk4; clear hT4 hR4 hk4
        go_wp2_with fail
        refine (rdue_any HR4.out hT0 hT1 HTB.out (by have := HLEN.out; omega)).mono ?_
        rintro e w5 ⟨he, rfl⟩
        rw [← due_same hT0 HTB.out, HD.out] at he
        subst he
        cases B
        all_goals
          go_wp2_with fail
          refine (purge_tab HT4.out N hT0 hT1 hN0 hN1 HTB.out (by have := HLEN.out; omega)).mono ?_
          rintro e w6 ⟨v6, fp6, rfl, hS6, hT6, hK6, hG6⟩
          have hR6 := HR4.out.keep_tab HT4.out hK6
          have hk6 : Keeps [] w w6 := HK4.out.trans hK6 (fun x hx => .inr (HF.out x hx))
          have HS6 := Lib.hid hS6; have HT6 := Lib.hid hT6; have HR6 := Lib.hid hR6; have HK6 := Lib.hid hk6
          have HLR := Lib.hid (restV_len N T vs)
          clear hS6 hT6 hR6 hK6 hk6 hG6
          go_wp2_with fail
          refine (rpurge_any HR6.out (by have := HK6.out.size; omega) hT0 hT1 hN0 hN1 HTB.out (by have := HLEN.out; omega)).mono ?_
          rintro e w7 ⟨v7, rfl, hS7, hR7, hK7⟩
          have hS67 := HS6.out.1.keep_rtab HR6.out hK7
          have hT7 := HT6.out.keep_ref HR6.out hK7
          have hk7 : Keeps [] w w7 := HK6.out.trans hK7 (fun x hx => by simp at hx; subst hx; exact .inr hrb)
          have HS7 := Lib.hid hS7; have HS67 := Lib.hid hS67; have HT7 := Lib.hid hT7; have HR7 := Lib.hid hR7; have HK7 := Lib.hid hk7
          clear hS7 hS67 hT7 hR7 hK7 hk7
          go_wp2_with fail
          refine (strs_any HS67.out HS7.out).mono ?_
          rintro e w8 ⟨he, n8, rfl⟩
          rw [show strsEq ((goneV N T vs).map (·.key)) (rKeys (goneV N T vs)) = true from strsEq_true rfl] at he
          subst he
          have hT8 := HT7.out.keep (Keeps.drewN [] w7 n8) (by simp)
          have hR8 := HR7.out.keep0 (Keeps.drewN [] w7 n8)
          have hk8 : Keeps [] w (w7.drewN n8) := HK7.out.trans (Keeps.drewN [] w7 n8) (by simp)
          generalize w7.drewN n8 = w8 at *
          have HT8 := Lib.hid hT8; have HR8 := Lib.hid hR8; have HK8 := Lib.hid hk8; clear hT8 hR8 hk8
          go_wp2_with fail
          refine (keys_tab HT8.out (by have := HLEN.out; have := HLR.out; omega)).mono ?_
          rintro e w9 ⟨v9, rfl, hS9, hT9, hK9⟩
          have hR9 := HR8.out.keep0 hK9
          have hk9 : Keeps [] w w9 := HK8.out.trans hK9 (by simp)
          have HS9 := Lib.hid hS9; have HR9 := Lib.hid hR9; have HK9 := Lib.hid hk9
          clear hS9 hT9 hK9 hR9 hk9
          go_wp2_with fail
          refine (rkeys_any HR9.out (by have := HLEN.out; have := HLR.out; omega)).mono ?_
          rintro e w10 ⟨v10, rfl, hS10, hK10⟩
          have hS9' := (HS9.out.keep0 hK10).1
          have hk10 : Keeps [] w w10 := HK9.out.trans hK10 (by simp)
          have HS9' := Lib.hid hS9'; have HS10 := Lib.hid hS10; have HK10 := Lib.hid hk10
          clear hS9' hS10 hK10 hk10
          go_wp2_with fail
          refine (strs_any HS9'.out HS10.out).mono ?_
          rintro e w11 ⟨he, n11, rfl⟩
          rw [show strsEq ((restV N T vs).map (·.key)) (rKeys (restV N T vs)) = true from strsEq_true rfl] at he
          subst he
          go_wp2_with fail
          go_ret
          exact ⟨rfl, HK10.out.trans (Keeps.drewN [] w10 n11) (by simp)⟩
end Go.Proofs.Ytaoamogmeefojaa
