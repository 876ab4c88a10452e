/- TableLives, walked. -/
import Derived.Test.YtaoamogmeefojaaLivesPlain
import Derived.Deep.RegionWith
import Derived.Deep.DeepCutAuto
namespace Go.Proofs.Ytaoamogmeefojaa
open Go.RowKit

/-- A slice of uint64s: each of its cells holds one. -/
def U64S (w : World) (v : Value) (zs : List Int) : Prop :=
  (∀ z ∈ zs, 0 ≤ z ∧ z ≤ 18446744073709551615) ∧ zs.length ≤ 9223372036854775807 ∧
  ∃ a cap, v = .slice a zs.length cap ∧ ∀ j (h : j < zs.length), ∃ g o, a = some ⟨g, o, none⟩ ∧ g < w.heap.size ∧ w.cell? ⟨g, o + j, none⟩ = some (.int .u64 zs[j])

theorem lst_snoc (a : List Int) (p : Int) : lst (a ++ [p]) = min (lst a) p := by unfold lst; rw [List.foldl_append]; rfl
theorem lft_snoc (now ttl : Int) (a : List Int) (p : Int) : lft now ttl (a ++ [p]) = lft now ttl a + if now < p + ttl then 1 else 0 := by
  unfold lft
  rw [List.filter_append, List.length_append]
  by_cases h : now < p + ttl <;> simp [h]

theorem conv_kI (k : Nat) (W : World) (b : Nat) (h : W.cell? ⟨b, 0, none⟩ = some (.int .u8 (97 + (k : Int)))) :
    (convert 29 9 (.slice (some ⟨b, 0, none⟩) 1 1)).run Try.prog W = .ok (.string (kI k)) W := by
  have := run_convert_bytes_arg (P := Try.prog) W 29 5 Try.underlying29 Try.underlying5 b 0 1 1 [97 + (k : Int)] rfl (fun i hi => by
    obtain rfl : i = 0 := by omega
    simpa using h) 9 Try.underlying9
  rw [this]
  have e : (97 + (k : Int)).toNat = 97 + k := by omega
  simp [strOfNums, kI, e]

/-- A round of the loop: k entries are put. -/
def LivesAt (w : World) (t : Nat) (ttl now : Int) (ps : List Int) (g : Nat) (least left i : Value) (wr : World) : Prop :=
  ∃ k : Nat, k ≤ ps.length ∧ g = ps.length - k ∧ i = .int .i64 k ∧ least = .int .u64 (lst (ps.take k)) ∧ left = .int .i64 (lft now ttl (ps.take k)) ∧
    ∃ fp, Tab wr t fp ttl (vsL (fun _ => zClean 4607182418800017408) (ps.take k)) ∧ Keeps [] w wr ∧ ∀ x ∈ fp, w.heap.size ≤ x

def LivesPut (w : World) (t : Nat) (ttl : Int) (ps : List Int) (p : Int) (wr : World) : Prop :=
  ∃ fp, Tab wr t fp ttl (vsL (fun _ => zClean 4607182418800017408) (ps ++ [p])) ∧ Keeps [] w wr ∧ ∀ x ∈ fp, w.heap.size ≤ x

set_option maxRecDepth 100000 in
set_option maxHeartbeats 2000000 in
theorem lives_walk (w : World) (T N : Int) (v : Value) (zs : List Int) (hT0 : 0 ≤ T) (hT1 : T ≤ 18446744073709551615) (hN0 : 0 ≤ N) (hN1 : N ≤ 18446744073709551615) (hv : U64S w v zs) :
    Calls Try.prog 5 #[.int .u64 T, v, .int .u64 N] w fun e w' => e = .returned (.bool true) ∧ Keeps [] w w' := by
  obtain ⟨hz, hzl, a, cap, rfl, hc⟩ := hv
  have HZ := Lib.hid hz; have HC := Lib.hid hc; clear hz hc
  go_enter Try.func5, Try.ntmps5
  go_wp2_with fail
  refine (new_tab w).mono ?_
  rintro e w1 ⟨t, fp1, rfl, hT1, hK1, hF1⟩
  go_wp2_with fail
  refine (known_any w1).mono ?_
  rintro e w2 ⟨rfl, hK2⟩
  have hT2 := hT1.keep hK2 (by simp)
  go_wp2_with fail
  have hq0 : 1 ≤ 1 + T % 50 ∧ 1 + T % 50 ≤ 50 := by omega
  have hq1 : 0 ≤ N % 200 ∧ N % 200 ≤ 199 := by omega
  generalize 1 + T % 50 = ttl at *
  generalize N % 200 = now at *
  obtain ⟨hq2, hq3⟩ := hq0
  obtain ⟨hq4, hq5⟩ := hq1
  refine (expire_tab hT2 ttl).mono ?_
  rintro e w3 ⟨rfl, hT3, hK3⟩
  have hk3 : Keeps [] w w3 := (hK1.trans hK2 (by simp)).trans hK3 (fun x hx => .inr (hF1 x hx))
  clear hT1 hT2 hK1 hK2 hK3
  go_upto_region 8 with fail
  go_cut [9] (fun s9 wx => wx = w3 ∧ s9 = .int .i64 (min zs.length 20 : Nat))
  case first =>
    go_wp2_with fail
    all_goals
      go_meet
      case rel => exact ⟨rfl, by congr 1; omega⟩
  case rest =>
    obtain ⟨rfl, rfl⟩ := hcut
    have hn1 : min zs.length 20 ≤ zs.length := by omega
    have hn2 : min zs.length 20 ≤ 20 := by omega
    generalize hn : min zs.length 20 = n at *
    clear hn
    obtain ⟨ps, hps⟩ : ∃ ps, ps = (zs.take n).map (· % 150) := ⟨_, rfl⟩
    have hpl : ps.length = n := by rw [hps]; simp; omega
    have hpb : ∀ p ∈ ps, 0 ≤ p ∧ p ≤ 149 := by
      intro p hp
      rw [hps] at hp
      obtain ⟨z, _, rfl⟩ := List.mem_map.1 hp
      omega
    have HP := Lib.hid hps; have HPL := Lib.hid hpl; have HPB := Lib.hid hpb; clear hps hpl hpb
    have HT3 := Lib.hid hT3; have HK3 := Lib.hid hk3; have HF1 := Lib.hid hF1; clear hT3 hk3 hF1
    go_wp2_with fail
    go_loopg [8, 10, 11] (ps.length) (fun g least left i wr => LivesAt w t ttl now ps g least left i wr)
    case atStart => exact ⟨0, by omega, by omega, rfl, rfl, rfl, fp1, HT3.out, HK3.out, HF1.out⟩
    case round =>
      obtain ⟨k, hk, rfl, rfl, rfl, rfl, fp, hTk, hKk, hFk⟩ := hrel
      by_cases hlt : k < n
      · have hkz : k < zs.length := by omega
        obtain ⟨ga, oa, hao, hga, hca⟩ := HC.out k hkz
        subst hao
        have hcw := hKk.cell hga hca
        have hzb := HZ.out zs[k] (List.getElem_mem _)
        generalize hzk : zs[k] = z at *
        have HZK := Lib.hid hzk; clear hzk hca
        obtain ⟨hz0, hz1⟩ := hzb
        have hp0 : 0 ≤ z % 150 ∧ z % 150 ≤ 149 := by omega
        have HTK := Lib.hid hTk; have HKK := Lib.hid hKk; have HFK := Lib.hid hFk; clear hTk hKk hFk
        go_upto_region 14 with fail
        generalize hzp : z % 150 = p at *
        have HZP := Lib.hid hzp; clear hzp
        obtain ⟨hp2, hp3⟩ := hp0
        have hw1 : IntKind.i64.wrap (97 + (k : Int)) = 97 + (k : Int) := IntWalk.i64_in _ (by omega)
        have hw2 : IntKind.u8.wrap (97 + (k : Int)) = 97 + (k : Int) := IntWalk.u8_in _ (by omega)
        have hcv := conv_kI k
        go_cut [12] (fun s12 wx => s12 = .int .u64 p ∧ LivesPut w t ttl (ps.take k) p wx)
        case first =>
          have hTW : ∀ W, Keeps [] wr W → Tab W t fp ttl (vsL (fun _ => zClean 4607182418800017408) (ps.take k)) := fun W hW => HTK.out.keep hW (by simp)
          go_region_with (first | (go_at_call 12; refine (num_any _ _).mono ?_; rintro e w' ⟨rfl, hk1⟩; try (have hcx : w'.cell? ⟨wr.heap.size, 0, none⟩ = some (.int .u8 (97 + (k : Int))) := hk1.cell (show wr.heap.size < (wr.alloc _).heap.size by simp) (cell_of_heap (h_new wr _) 0))) | (go_at_call 11; go_loud (refine (put_tab (hTW _ (by first | exact (((Keeps.alloc [] wr _).trans (Keeps.drew [] _) (by simp)).trans hk1 (by simp)) | exact (((Keeps.drew [] wr).trans hk1 (by simp)).trans (Keeps.alloc [] _ _) (by simp)))) (kvI (fun _ => zClean 4607182418800017408) k p)).mono ?_); rintro e w2 ⟨rfl, fp2, hT2, hK2, hG2⟩))
          all_goals
            have hW : Keeps fp wr w2 := by
              first
                | exact (Keeps.weaken (((Keeps.alloc [] wr _).trans (Keeps.drew [] _) (by simp)).trans hk1 (by simp)) (by simp)).trans hK2 (fun _ h => .inl h)
                | exact (Keeps.weaken (((Keeps.drew [] wr).trans hk1 (by simp)).trans (Keeps.alloc [] _ _) (by simp)) (by simp)).trans hK2 (fun _ h => .inl h)
            have hG : ∀ x ∈ fp2, w.heap.size ≤ x := by
              intro x hx
              rcases hG2 x hx with h | h
              · exact HFK.out x h
              · have h1 := hk1.size
                have h2 := HKK.out.size
                simp at h1 h
                omega
            have hT2' : Tab w2 t fp2 ttl (vsL (fun _ => zClean 4607182418800017408) (ps.take k ++ [p])) := by
              have hl : (ps.take k).length = k := by rw [List.length_take]; have := HPL.out; omega
              have h1 := kput_vsL (fun _ => zClean 4607182418800017408) (ps.take k) p (by omega)
              rw [hl] at h1
              rw [← h1]
              exact hT2
            have hput : LivesPut w t ttl (ps.take k) p w2 := ⟨fp2, hT2', HKK.out.trans hW (fun x hx => .inr (HFK.out x hx)), hG⟩
            have HPUT := Lib.hid hput
            clear hW hG hT2' hput hT2 hK2 hG2 hk1 hTW hcv
            go_wp2_with fail
            go_meet
            case rel => exact ⟨rfl, HPUT.out⟩
        case rest =>
          obtain ⟨rfl, hput⟩ := hcut
          clear hcv hw1 hw2
          have hpk : ps.take (k + 1) = ps.take k ++ [p] := by
            have hkl : k < ps.length := by have := HPL.out; omega
            rw [List.take_succ_eq_append_getElem hkl]
            congr 2
            have h1 : ps[k] = zs[k] % 150 := by
              have := HP.out
              simp [this]
            rw [h1, HZK.out, HZP.out]
          have HPK := Lib.hid hpk; clear hpk
          have hlb := lst_bd (ts := ps.take k) (fun t ht => HPB.out t (List.mem_of_mem_take ht))
          generalize hL : lst (ps.take k) = L at *
          generalize hQ : lft now ttl (ps.take k) = Q at *
          have HL := Lib.hid hL; have HQ := Lib.hid hQ; clear hL hQ
          have hQ1 : Q ≤ 20 := by
            have := HQ.out
            unfold lft at this
            have h1 := List.length_filter_le (fun t => decide (now < t + ttl)) (ps.take k)
            rw [this, List.length_take] at h1
            omega
          obtain ⟨hL0, hL1⟩ := hlb
          have HPUT := Lib.hid hput; clear hput
          go_wp2_with fail
          all_goals
            go_roundg (ps.length - (k + 1))
            case measure => have := HPL.out; omega
            case rel =>
              refine ⟨k + 1, by have := HPL.out; omega, rfl, by go_num, ?_, ?_, ?_⟩
              · rw [HPK.out, lst_snoc, HL.out]; congr 1; omega
              · rw [HPK.out, lft_snoc, HQ.out]
                first
                  | (rw [if_pos (by omega)]; go_num)
                  | (rw [if_neg (by omega)]; go_num)
              · rw [HPK.out]; exact HPUT.out
      · have hke : k = n := by have := HPL.out; omega
        subst hke
        have htk : ps.take k = ps := List.take_of_length_le (by have := HPL.out; omega)
        have hB : TB (vsL (fun _ => zClean 4607182418800017408) ps) := vsL_TB (fun x hx => by have := HPB.out x hx; omega)
        have hlen : (vsL (fun _ => zClean 4607182418800017408) ps).length = k := by rw [vsL, vsFrom_length]; exact HPL.out
        obtain ⟨hg1, hg2, hg3⟩ := gone_len (fun _ => zClean 4607182418800017408) hq2 (now := now) ps
        have hg4 := gone_rest (fun _ => zClean 4607182418800017408) (now := now) (vsL (fun _ => zClean 4607182418800017408) ps) hq2
        have hg5 := gone_some (now := now) hq2 hq5 (ts := ps)
        have hlb := lst_bd (ts := ps) HPB.out
        have hdl : k ≠ 0 → dueFold ttl ps = lst ps + ttl := fun h => dueFold_lst ttl (by omega) hq3 (by intro e; have := HPL.out; rw [e] at this; exact h this.symm) HPB.out
        have hdt : dueFold ttl ((vsL (fun _ => zClean 4607182418800017408) ps).map (·.t)) = dueFold ttl ps := by rw [vsL, vsFrom_times]
        rw [HPL.out] at hg1 hg3 hg5
        simp only [htk] at *
        generalize vsL (fun _ => zClean 4607182418800017408) ps = vs at *
        generalize lst ps = L at *
        generalize lft now ttl ps = Q at *
        clear htk
        obtain ⟨hL0, hL1⟩ := hlb
        have HTK := Lib.hid hTk; have HKK := Lib.hid hKk; have HFK := Lib.hid hFk; have HB := Lib.hid hB; have HLEN := Lib.hid hlen
        have HG1 := Lib.hid hg1; have HG2 := Lib.hid hg2; have HG4 := Lib.hid hg4; have HG5 := Lib.hid hg5; have HDL := Lib.hid hdl; have HDT := Lib.hid hdt
        clear hTk hKk hFk hB hlen hg1 hg2 hg4 hg5 hdl hdt
        by_cases hk0 : k = 0
        · subst hk0
          have hvs : vs = [] := List.eq_nil_of_length_eq_zero HLEN.out
          subst hvs
          have hQ0 : Q = 0 := by omega
          subst hQ0
          have hgt : ¬ L + ttl ≤ now := by simpa using HG5.out
          go_wp2_with fail
          refine (due_tab HTK.out (by omega) (by omega) TB.nil).mono ?_
          rintro e w4 ⟨he, n4, rfl⟩
          rw [show dueV ttl [] = .tuple #[.int .u64 0, .bool false] from by simp [dueV]] at he
          subst he
          have HT4 := Lib.hid (HTK.out.keep (Keeps.drewN [] wr n4) (by simp))
          go_wp2_with fail
          refine (purge_tab HT4.out now (by omega) (by omega) (by omega) (by omega) TB.nil (by decide)).mono ?_
          rintro e w5 ⟨v5, fp5, rfl, hS5, hT5, hK5, hG5⟩
          have hgn : goneV now ttl [] = [] := by unfold goneV; split <;> rfl
          have hrs : restV now ttl [] = [] := by unfold restV; split <;> rfl
          rw [hgn] at hS5
          rw [hrs] at hT5
          obtain ⟨x5, c5, rfl⟩ : ∃ x c, v5 = .slice x 0 c := by
            rcases hS5.1.2 with ⟨h1, _⟩ | ⟨g, o, c, h1, _⟩
            · exact ⟨_, _, h1⟩
            · exact ⟨_, c, h1⟩
          have HGN := Lib.hid hgn
          have hk5 : Keeps [] w w5 := (HKK.out.trans (Keeps.drewN [] wr n4) (by simp)).trans hK5 (fun x hx => .inr (HFK.out x hx))
          have hf5 : ∀ x ∈ fp5, w.heap.size ≤ x := by
            intro x hx
            rcases hG5 x hx with h | h
            · exact HFK.out x h
            · have := HKK.out.size; simp at h; omega
          have HT5 := Lib.hid hT5; have HK5 := Lib.hid hk5; have HF5 := Lib.hid hf5
          clear hT5 hK5 hG5 hS5 hk5 hf5 hgn hrs
          go_wp2_with fail
          refine (len_tab HT5.out).mono ?_
          rintro e w6 ⟨rfl, rfl⟩
          go_wp2_with fail
          refine (purge_tab HT5.out now (by omega) (by omega) (by omega) (by omega) TB.nil (by decide)).mono ?_
          rintro e w7 ⟨v7, fp7, rfl, hS7, hT7, hK7, hG7⟩
          rw [HGN.out] at hS7
          obtain ⟨x7, c7, rfl⟩ : ∃ x c, v7 = .slice x 0 c := by
            rcases hS7.1.2 with ⟨h1, _⟩ | ⟨g, o, c, h1, _⟩
            · exact ⟨_, _, h1⟩
            · exact ⟨_, c, h1⟩
          have hk7 : Keeps [] w w7 := HK5.out.trans hK7 (fun x hx => .inr (HF5.out x hx))
          have HK7 := Lib.hid hk7
          clear hS7 hT7 hK7 hG7 hk7
          go_wp2_with fail
          go_ret
          exact ⟨by have hn : ¬ L + ttl ≤ now := by omega
                    show Ending.returned (.bool (!decide (L + ttl ≤ now))) = _
                    simp [hn], HK7.out⟩
        · have hkp : 0 < k := by omega
          have hdv : dueV ttl vs = .tuple #[.int .u64 (L + ttl), .bool true] := by
            unfold dueV
            have hne : vs ≠ [] := by intro e; have := HLEN.out; rw [e] at this; simp at this; omega
            rw [if_neg (by simp [hne]; omega), HDT.out, HDL.out hk0]
          have HDV := Lib.hid hdv; clear hdv
          go_wp2_with fail
          refine (due_tab HTK.out (by omega) (by omega) HB.out).mono ?_
          rintro e w4 ⟨he, n4, rfl⟩
          rw [HDV.out] at he
          subst he
          have hT4 := HTK.out.keep (Keeps.drewN [] wr n4) (by simp)
          have HT4 := Lib.hid hT4; clear hT4
          go_wp2_with fail
          refine (purge_tab HT4.out now (by omega) (by omega) (by omega) (by omega) HB.out (by have := HLEN.out; omega)).mono ?_
          rintro e w5 ⟨v5, fp5, rfl, hS5, hT5, hK5, hG5⟩
          obtain ⟨G, hG⟩ : ∃ G : Nat, G = k - Q := ⟨_, rfl⟩
          have hGi : (k : Int) - (Q : Int) = (G : Int) := by omega
          have hv5 : ∃ x c, v5 = .slice x G c := by
            have hl5 : ((goneV now ttl vs).map (·.key)).length = G := by rw [List.length_map, HG1.out, hG]
            rcases hS5.1.2 with ⟨h1, h2⟩ | ⟨g, o, c, h1, _⟩
            · rw [h2] at hl5
              exact ⟨_, _, by rw [← hl5]; exact h1⟩
            · rw [hl5] at h1
              exact ⟨_, c, h1⟩
          obtain ⟨x5, c5, rfl⟩ := hv5
          have hk5 : Keeps [] w w5 := (HKK.out.trans (Keeps.drewN [] wr n4) (by simp)).trans hK5 (fun x hx => .inr (HFK.out x hx))
          have hf5 : ∀ x ∈ fp5, w.heap.size ≤ x := by
            intro x hx
            rcases hG5 x hx with h | h
            · exact HFK.out x h
            · have := HKK.out.size; simp at h; omega
          have HT5 := Lib.hid hT5; have HK5 := Lib.hid hk5; have HF5 := Lib.hid hf5; have HGK := Lib.hid hG
          clear hT5 hK5 hG5 hS5 hk5 hf5
          have hdec := HG5.out
          rw [← hG] at hdec
          clear hG
          have hGb : (G : Int) ≤ 20 := by omega
          by_cases hgt : L + ttl ≤ now
          · have hG0 : 0 < G := by simpa [hgt] using hdec.symm
            clear hdec
            go_wp2_with fail
            refine (len_tab HT5.out).mono ?_
            rintro e w6 ⟨he, rfl⟩
            rw [HG2.out] at he
            subst he
            go_wp2_with fail
            refine (purge_tab HT5.out now (by omega) (by omega) (by omega) (by omega) HB.out.rest (by have := HG2.out; omega)).mono ?_
            rintro e w7 ⟨v7, fp7, rfl, hS7, hT7, hK7, hG7⟩
            rw [HG4.out] at hS7
            obtain ⟨x7, c7, rfl⟩ : ∃ x c, v7 = .slice x 0 c := by
              rcases hS7.1.2 with ⟨h1, _⟩ | ⟨g, o, c, h1, _⟩
              · exact ⟨_, _, h1⟩
              · exact ⟨_, c, h1⟩
            have hk7 : Keeps [] w w7 := HK5.out.trans hK7 (fun x hx => .inr (HF5.out x hx))
            have HK7 := Lib.hid hk7
            clear hS7 hT7 hK7 hG7 hk7
            go_wp2_with fail
            go_ret
            exact ⟨rfl, HK7.out⟩
          · have hG9 : ¬ 0 < G := by simpa [hgt] using hdec.symm
            have hG0 : G = 0 := by omega
            clear hG9
            subst hG0
            clear hdec
            go_wp2_with fail
            refine (len_tab HT5.out).mono ?_
            rintro e w6 ⟨he, rfl⟩
            rw [HG2.out] at he
            subst he
            go_wp2_with fail
            refine (purge_tab HT5.out now (by omega) (by omega) (by omega) (by omega) HB.out.rest (by have := HG2.out; omega)).mono ?_
            rintro e w7 ⟨v7, fp7, rfl, hS7, hT7, hK7, hG7⟩
            rw [HG4.out] at hS7
            obtain ⟨x7, c7, rfl⟩ : ∃ x c, v7 = .slice x 0 c := by
              rcases hS7.1.2 with ⟨h1, _⟩ | ⟨g, o, c, h1, _⟩
              · exact ⟨_, _, h1⟩
              · exact ⟨_, c, h1⟩
            have hk7 : Keeps [] w w7 := HK5.out.trans hK7 (fun x hx => .inr (HF5.out x hx))
            have HK7 := Lib.hid hk7
            clear hS7 hT7 hK7 hG7 hk7
            go_wp2_with fail
            go_ret
            exact ⟨by have hn : ¬ L + ttl ≤ now := by omega
                      show Ending.returned (.bool (!decide (L + ttl ≤ now))) = _
                      simp [hn], HK7.out⟩
end Go.Proofs.Ytaoamogmeefojaa
