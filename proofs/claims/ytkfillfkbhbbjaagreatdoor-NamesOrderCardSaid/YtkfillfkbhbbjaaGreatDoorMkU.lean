/- MkU. -/
import Derived.Test.YtkfillfkbhbbjaaGreatDoorMkT
set_option maxRecDepth 100000
set_option maxHeartbeats 4000000
set_option linter.unusedSimpArgs false
set_option linter.unusedVariables false
namespace Go.Proofs.YtkfillfkbhbbjaaGreatDoor
open Go.RowKit
attribute [local go_sem] run_pick12
set_option maxHeartbeats 40000000 in
theorem progRest : progPart3.1 := by
 unfold progPart3
 dsimp only
 intro M hM w hw0 HW HKE Kz1 w1 G HGE w2 y gk wr u6 u26 u27 u33 u41 Jz Kz m e J hJ HEe0 HE3 va vc him hig i9 n9 l9 u0 HEe lb0 P F cp bk ek bm bc J1 ba hJ1 hbm u1 HB1 HB2 HB3 HB4 HB5 HB6 u2 HP HG HO HF HPP HOb HZ HFu wc u7 u8 u9 u10 u11 u12 u13 u14 u15 u16 u17 u18 u19 u20 u21 u22 u23 u24 u25 u28 u29 u30 u31 u32 u34 u35 u36 u37 u38 u39 u40 u42 u43 u44 u45 u46 u47 u48 u49 u50 u51 u52 u53 u54 u55 u56 u57 u58 u59 u60 u61 u62 u63 u64 u65 u66 u67 u68 u69 u70 u71 u72 u73 u74 u75 u76 u77 u78 u79 u80 u81 u82 u83 u84 u85 u86 u87 u88 u89 u90 u91 u92 u93 u94 u95 u96 u97 u98 u99 u100 u101 u102 u103 u104 u105 u106 u107 u108 u109 u110 u111 u112 u113 u114 u115 u116 u117 u118 u119 u120 u121 u122 u123 u124 u125 u126 u127 u128 u129 u130 u131 u132 u133 u134 u135 u136 u137 u138 u139 u140 u141 u142 u143 u144 u145 u146 u147 u148 u149 u150 u151 u152 u153 hcut;obtain ⟨ka, km, kc, hP, cG, hO, hF, cP, hkx⟩ := hcut;generalize wc = u3 at *
 clear HP HG HO HF HPP HOb HZ;have HP := zh hP; have HG := zh cG; have HO := zh hO; have HF := zh hF; have HPP := zh cP; have HKX := zh hkx;clear hP cG hO hF cP hkx;obtain ⟨i9, n9, l9, hi9, hn9, hl91, hl92, hm9⟩ := HP.out.mak;obtain ⟨l_k, x0, x1, x2, x3, x4, y0, y1, y2, y3, y4⟩ := cf5 hm9.row;have HM9 := zh hm9;clear hm9
 go_upto_region 28 with fail
 refine wp_at (fun W => Keeps [M.k] u3 W ∧ W.heap[M.k]? = some (.cells #[.slice M.la M.ln M.lc, .int .i64 i9, .int .i64 90, .bool false, .int .i64 l9] 77 (0, 0))) ⟨zg, (ze HM9.out.row)⟩ ?_;rintro u4 ⟨hk, hr⟩;replace HP : Hid (Pg M J1 false w u4) := zh (HP.out.call ⟨i9, 90, l9, hi9, by omega, hl91, hl92, HM9.out.upd HP.out.fix hk (by exact_mod_cast hr)⟩ hk);replace HG := zh (hk.at HG.out ji);replace HO := zh (HO.out.step hk ji);replace HF := zh (own_step HF.out hk qj);replace HPP := zh (hk.at HPP.out qj);replace HKX := zh (HKX.out.step hk qj);have HZ : Hid (u4.heap.size ≤ u4.heap.size) := zh (Nat.le_refl _);have HF4 : Hid (F < u4.heap.size) := zh (own_cells HF.out).1;clear hk hr HM9 hi9 hn9 hl91 hl92 l_k x0 x1 x2 x3 x4 y0 y1 y2 y3 y4 HFu
 go_wp2_with fail
 refine wp_region_tailH (n := 16) (S := fun V => V.cell? ⟨G, 1, none⟩ = some (.slice (some ⟨F, 0, none⟩) 1 cp)) (st := 31) (p := .tmp 152) (v := .tmp 151) jh jh jh rfl (cellK (W := u4) (fp := []) (by exact kD (k0 [] u4)) HG.out rfl jg) ?_;intro Rq hR1 hR3 hSS;refine zzb ?_;refine anyH_at (fun V => Keeps [] u4 V ∧ V.cell? ⟨G, 1, none⟩ = some (.slice (some ⟨F, 0, none⟩) 1 cp)) ⟨(by exact kD (k0 [] u4)), hSS⟩ ?_;clear hSS;rintro cw ⟨hk, hSS⟩;replace HP := zh (HP.out.kp hk jg);replace HG := zh (hk.at HG.out jg);replace HO := zh (HO.out.step hk jg);replace HF := zh (own_step HF.out hk jg);replace HPP := zh (hk.at HPP.out jg);replace HKX := zh (HKX.out.step hk jg);replace HZ := zh (Nat.le_trans HZ.out hk.size);clear hk;refine wpAnyH_take (i := 0) (v := ?_) rfl jh jh jh (fun c a' w' => hR3 c _ _ _ (fun h => h)) (Or.inl ⟨by rfl, ?_⟩) hSS ?_
 rotate_left
 ·intro w' hSw; (try dsimp only at hSw); go_simp; (try with_reducible rfl)
 refine jzb ?_;refine wpAnyH_take (i := 1) (v := ?_) rfl jh jh jh (fun c a' w' => hR3 c _ _ _ (fun h => h)) (Or.inl ⟨by rfl, ?_⟩) hSS ?_
 rotate_left
 ·intro w' hSw; (try dsimp only at hSw); go_simp; (try with_reducible rfl)
 refine jzb ?_;refine wpAnyH_take (i := 4) (v := ?_) rfl jh jh jh (fun c a' w' => hR3 c _ _ _ (fun h => h)) (Or.inl ⟨by rfl, ?_⟩) hSS ?_
 rotate_left
 ·intro w' hSw; (try dsimp only at hSw); go_simp; (try with_reducible rfl)
 refine jzb ?_;have mk0 := True.intro;refine wpAnyH_ready (rs := [2, 3]) jh jg ?_;refine AllReadyH.cons rfl (fun K hK => ?_) (AllReadyH.cons rfl (fun K hK => ?_) AllReadyH.nil)
 rotate_left
 refine qfc ?_
 rename World => ow
 rintro v cw ⟨rfl, hk⟩;replace HP := zh (HP.out.kp hk jg);replace HG := zh (hk.at HG.out jg);replace HO := zh (HO.out.step hk jg);replace HF := zh (own_step HF.out hk jg);replace HPP := zh (hk.at HPP.out jg);replace HKX := zh (HKX.out.step hk jg);replace HZ := zh (Nat.le_trans HZ.out hk.size);refine hK.out _ _ (cellK (W := cw) (fp := []) (Keeps.refl [] _) HG.out rfl jg) (fun hSS => ?_);clear hK hk;refine zac ?_;clear mk0;have mk1 := True.intro;refine wpAnyH_ready (rs := [2, 5]) jh jg ?_;refine AllReadyH.cons rfl (fun K hK => ?_) (AllReadyH.cons rfl (fun K hK => ?_) AllReadyH.nil)
 rotate_left
 refine step_call (f := 33) (vals := #[.pointer (some ⟨M.k, 0, none⟩)]) rfl _ rfl jh (leaf_any HP.out.here qg) ?_
 rename World => ow
 rintro v cw ⟨hn, hm, hk⟩;obtain ⟨k1, nm1, nu1, a1, l1, c1, re1, im1, rfl⟩ := hn.shape;have HX : Hid (Nd u4.heap.size 2 cw (.agg #[.int .i64 k1, .string nm1, .float .f64 nu1, .slice a1 l1 c1, .complex .f64 re1 im1])) := zh (hn.to HZ.out (Nat.le_refl _));replace HP := zh (HP.out.call hm hk);replace HG := zh (hk.at HG.out ji);replace HO := zh (HO.out.step hk ji);replace HF := zh (own_step HF.out hk qj);replace HPP := zh (hk.at HPP.out qj);replace HKX := zh (HKX.out.step hk qj);replace HZ := zh (Nat.le_trans HZ.out hk.size);refine hK.out _ _ (cellK (W := cw) (fp := []) (Keeps.refl [] _) HG.out rfl jg) (fun hSS => ?_);clear hK hn hm hk;refine zac ?_;clear mk1;have mk2 := True.intro;refine wpAnyH_ready (rs := [2, 6]) jh jg ?_;refine AllReadyH.cons rfl (fun K hK => ?_) (AllReadyH.cons rfl (fun K hK => ?_) AllReadyH.nil)
 rotate_left
 have HLHS1 : Hid (u4.heap.size ≤ cw.heap.size) := HZ
 go_simp
 refine hK.out _ _ (cellK (W := cw) (fp := []) zg HG.out rfl jg) (fun hSS => ?_);clear hK;refine zac ?_;refine zgc ?_;clear hSS
 rename World => bHS1
 rintro cw ⟨hk, hr, hSS⟩;replace HP := zh (HP.out.kp hk jg);replace HG := zh (hk.at HG.out jg);replace HO := zh (HO.out.step hk jg);replace HF := zh (own_step HF.out hk jg);replace HPP := zh (hk.at HPP.out jg);replace HKX := zh (HKX.out.step hk jg);replace HZ := zh (Nat.le_trans HZ.out hk.size);replace HX := zh (HX.out.step hk jg);have HS1 := zh hr;clear hk hr;clear mk2;have mk3 := True.intro;refine wpAnyH_ready (rs := [2, 7]) jh jg ?_;refine AllReadyH.cons rfl (fun K hK => ?_) (AllReadyH.cons rfl (fun K hK => ?_) AllReadyH.nil)
 rotate_left
 have HI : Hid (Nd u4.heap.size 4 cw (.agg #[.int .i64 14, .string ⟨#[]⟩, .float .f64 0, .slice (some ⟨bHS1.heap.size, 0, none⟩) 2 2, .complex .f64 0 0])) := zh ((Kd.row2 HS1.out HLHS1.out (Nd.leaf _ _ _ _ _ _ _) HX.out).mk zi);clear HS1 HX;refine jgc ?_
 rename World => ow
 rintro v cw ⟨rfl, hk⟩;replace HP := zh (HP.out.kp hk jg);replace HG := zh (hk.at HG.out jg);replace HO := zh (HO.out.step hk jg);replace HF := zh (own_step HF.out hk jg);replace HPP := zh (hk.at HPP.out jg);replace HKX := zh (HKX.out.step hk jg);replace HZ := zh (Nat.le_trans HZ.out hk.size);replace HI := zh (HI.out.step hk jg);refine hK.out _ _ (cellK (W := cw) (fp := []) (Keeps.refl [] _) HG.out rfl jg) (fun hSS => ?_);clear hK hk;refine zac ?_;clear mk3;have mk4 := True.intro;refine wpAnyH_ready (rs := [2, 8]) jh jg ?_;refine AllReadyH.cons rfl (fun K hK => ?_) (AllReadyH.cons rfl (fun K hK => ?_) AllReadyH.nil)
 rotate_left
 have HLHS2 : Hid (u4.heap.size ≤ cw.heap.size) := HZ
 go_simp
 refine hK.out _ _ (cellK (W := cw) (fp := []) zg HG.out rfl jg) (fun hSS => ?_);clear hK;refine zac ?_;refine qgc ?_;clear hSS
 rename World => bHS2
 rintro cw ⟨hk, hr, hSS⟩;replace HP := zh (HP.out.kp hk jg);replace HG := zh (hk.at HG.out jg);replace HO := zh (HO.out.step hk jg);replace HF := zh (own_step HF.out hk jg);replace HPP := zh (hk.at HPP.out jg);replace HKX := zh (HKX.out.step hk jg);replace HZ := zh (Nat.le_trans HZ.out hk.size);replace HI := zh (HI.out.step hk jg);have HS2 := zh hr;clear hk hr;clear mk4;have mk5 := True.intro;refine wpAnyH_ready (rs := [2, 9]) jh jg ?_;refine AllReadyH.cons rfl (fun K hK => ?_) (AllReadyH.cons rfl (fun K hK => ?_) AllReadyH.nil)
 rotate_left
 replace HI : Hid (Nd u4.heap.size 5 cw (.agg #[.int .i64 40, .string ⟨#[]⟩, .float .f64 0, .slice (some ⟨bHS2.heap.size, 0, none⟩) 1 1, .complex .f64 0 0])) := zh ((Kd.row1 HS2.out HLHS2.out HI.out).mk zi);clear HS2;refine zhc ?_
 rename World => ow
 rintro v cw ⟨rfl, hk⟩;replace HP := zh (HP.out.kp hk jg);replace HG := zh (hk.at HG.out jg);replace HO := zh (HO.out.step hk jg);replace HF := zh (own_step HF.out hk jg);replace HPP := zh (hk.at HPP.out jg);replace HKX := zh (HKX.out.step hk jg);replace HZ := zh (Nat.le_trans HZ.out hk.size);replace HI := zh (HI.out.step hk jg);refine hK.out _ _ (cellK (W := cw) (fp := []) (Keeps.refl [] _) HG.out rfl jg) (fun hSS => ?_);clear hK hk;refine zac ?_;clear mk5;have mk6 := True.intro;refine wpAnyH_ready (rs := [2, 10]) jh jg ?_;refine AllReadyH.cons rfl (fun K hK => ?_) (AllReadyH.cons rfl (fun K hK => ?_) AllReadyH.nil)
 rotate_left
 have HLHS3 : Hid (u4.heap.size ≤ cw.heap.size) := HZ
 go_simp
 refine hK.out _ _ (cellK (W := cw) (fp := []) zg HG.out rfl jg) (fun hSS => ?_);clear hK;refine zac ?_;refine jhc ?_;clear hSS
 rename World => bHS3
 rintro cw ⟨hk, hr, hSS⟩;replace HP := zh (HP.out.kp hk jg);replace HG := zh (hk.at HG.out jg);replace HO := zh (HO.out.step hk jg);replace HF := zh (own_step HF.out hk jg);replace HPP := zh (hk.at HPP.out jg);replace HKX := zh (HKX.out.step hk jg);replace HZ := zh (Nat.le_trans HZ.out hk.size);replace HI := zh (HI.out.step hk jg);have HS3 := zh hr;clear hk hr;clear mk6;have mk7 := True.intro;refine wpAnyH_ready (rs := [2, 11]) jh jg ?_;refine AllReadyH.cons rfl (fun K hK => ?_) (AllReadyH.cons rfl (fun K hK => ?_) AllReadyH.nil)
 rotate_left
 replace HI : Hid (Nd u4.heap.size 6 cw (.agg #[.int .i64 30, .string ⟨#[]⟩, .float .f64 0, .slice (some ⟨bHS3.heap.size, 0, none⟩) 1 1, .complex .f64 0 0])) := zh ((Kd.row1 HS3.out HLHS3.out HI.out).mk zi);clear HS3;refine qhc ?_
 rename World => ow
 rintro v cw ⟨rfl, hk⟩;replace HP := zh (HP.out.kp hk jg);replace HG := zh (hk.at HG.out jg);replace HO := zh (HO.out.step hk jg);replace HF := zh (own_step HF.out hk jg);replace HPP := zh (hk.at HPP.out jg);replace HKX := zh (HKX.out.step hk jg);replace HZ := zh (Nat.le_trans HZ.out hk.size);replace HI := zh (HI.out.step hk jg);refine hK.out _ _ (cellK (W := cw) (fp := []) (Keeps.refl [] _) HG.out rfl jg) (fun hSS => ?_);clear hK hk;refine zac ?_;clear mk7;have mk8 := True.intro;refine wpAnyH_ready (rs := [2]) jh jg ?_;refine AllReadyH.cons rfl (fun K hK => ?_) AllReadyH.nil
 all_goals
  have HLHP2 : Hid (u4.heap.size ≤ cw.heap.size) := HZ
  go_simp
  refine hK.out _ _ (cellK (W := cw) (fp := []) zg HG.out rfl jg) (fun hSS => ?_);clear hK;refine zac ?_;refine anyH_at (fun V => Keeps [] cw V ∧ V.heap[cw.heap.size]? = some (.cells #[.string ⟨#[122]⟩] 9 (0, 0)) ∧ V.cell? ⟨G, 1, none⟩ = some (.slice (some ⟨F, 0, none⟩) 1 cp)) ⟨zg, qd, hSS⟩ ?_;clear hSS
  rename World => bHP2
  rintro cw ⟨hk, hr, hSS⟩;replace HP := zh (HP.out.kp hk jg);replace HG := zh (hk.at HG.out jg);replace HO := zh (HO.out.step hk jg);replace HF := zh (own_step HF.out hk jg);replace HPP := zh (hk.at HPP.out jg);replace HKX := zh (HKX.out.step hk jg);replace HZ := zh (Nat.le_trans HZ.out hk.size);try replace HX := zh (HX.out.step hk jg)
  try replace HS1 := zh (hk.at HS1.out jg)
  try replace HI := zh (HI.out.step hk jg)
  try replace HS2 := zh (hk.at HS2.out jg)
  try replace HS3 := zh (hk.at HS3.out jg)
  have HP2 := zh hr;clear hk hr
 all_goals repeat (first
  | have mz := mk0
    clear mz mk0;refine wpAnyH_ready (rs := [3]) jh jg ?_;refine AllReadyH.cons rfl (fun K hK => ?_) AllReadyH.nil;refine qfc ?_
    rename World => ow
    rintro v cw ⟨rfl, hk⟩;replace HP := zh (HP.out.kp hk jg);replace HG := zh (hk.at HG.out jg);replace HO := zh (HO.out.step hk jg);replace HF := zh (own_step HF.out hk jg);replace HPP := zh (hk.at HPP.out jg);replace HKX := zh (HKX.out.step hk jg);replace HZ := zh (Nat.le_trans HZ.out hk.size);replace HP2 := zh (hk.at HP2.out jg);refine hK.out _ _ (cellK (W := cw) (fp := []) (Keeps.refl [] _) HG.out rfl jg) (fun hSS => ?_);clear hK hk;refine zac ?_;have mk1 := True.intro
  | have mz := mk1
    clear mz mk1;refine wpAnyH_ready (rs := [5]) jh jg ?_;refine AllReadyH.cons rfl (fun K hK => ?_) AllReadyH.nil;refine step_call (f := 33) (vals := #[.pointer (some ⟨M.k, 0, none⟩)]) rfl _ rfl jh (leaf_any HP.out.here qg) ?_
    rename World => ow
    rintro v cw ⟨hn, hm, hk⟩;obtain ⟨k1, nm1, nu1, a1, l1, c1, re1, im1, rfl⟩ := hn.shape;have HX : Hid (Nd u4.heap.size 2 cw (.agg #[.int .i64 k1, .string nm1, .float .f64 nu1, .slice a1 l1 c1, .complex .f64 re1 im1])) := zh (hn.to HZ.out (Nat.le_refl _));replace HP := zh (HP.out.call hm hk);replace HG := zh (hk.at HG.out ji);replace HO := zh (HO.out.step hk ji);replace HF := zh (own_step HF.out hk qj);replace HPP := zh (hk.at HPP.out qj);replace HKX := zh (HKX.out.step hk qj);replace HZ := zh (Nat.le_trans HZ.out hk.size);replace HP2 := zh (hk.at HP2.out (by have := HLHP2.out; have := HF4.out; have := HKE.out; have := HGE.out; have := HB1.out; have := HB2.out; have := HB3.out; have := HB4.out; simp; omega));refine hK.out _ _ (cellK (W := cw) (fp := []) (Keeps.refl [] _) HG.out rfl jg) (fun hSS => ?_);clear hK hn hm hk;refine zac ?_;have mk2 := True.intro
  | have mz := mk2
    clear mz mk2;refine jac ?_;refine AllReadyH.cons rfl (fun K hK => ?_) AllReadyH.nil;have HLHS1 : Hid (u4.heap.size ≤ cw.heap.size) := HZ
    go_simp
    refine hK.out _ _ (cellK (W := cw) (fp := []) zg HG.out rfl jg) (fun hSS => ?_);clear hK;refine zac ?_;refine zgc ?_;clear hSS
    rename World => bHS1
    rintro cw ⟨hk, hr, hSS⟩;replace HP := zh (HP.out.kp hk jg);replace HG := zh (hk.at HG.out jg);replace HO := zh (HO.out.step hk jg);replace HF := zh (own_step HF.out hk jg);replace HPP := zh (hk.at HPP.out jg);replace HKX := zh (HKX.out.step hk jg);replace HZ := zh (Nat.le_trans HZ.out hk.size);replace HP2 := zh (hk.at HP2.out jg);replace HX := zh (HX.out.step hk jg);have HS1 := zh hr;clear hk hr;have mk3 := True.intro
  | have mz := mk3
    clear mz mk3;refine wpAnyH_ready (rs := [7]) jh jg ?_;refine AllReadyH.cons rfl (fun K hK => ?_) AllReadyH.nil;have HI : Hid (Nd u4.heap.size 4 cw (.agg #[.int .i64 14, .string ⟨#[]⟩, .float .f64 0, .slice (some ⟨bHS1.heap.size, 0, none⟩) 2 2, .complex .f64 0 0])) := zh ((Kd.row2 HS1.out HLHS1.out (Nd.leaf _ _ _ _ _ _ _) HX.out).mk zi);clear HS1 HX;refine jgc ?_
    rename World => ow
    rintro v cw ⟨rfl, hk⟩;replace HP := zh (HP.out.kp hk jg);replace HG := zh (hk.at HG.out jg);replace HO := zh (HO.out.step hk jg);replace HF := zh (own_step HF.out hk jg);replace HPP := zh (hk.at HPP.out jg);replace HKX := zh (HKX.out.step hk jg);replace HZ := zh (Nat.le_trans HZ.out hk.size);replace HP2 := zh (hk.at HP2.out jg);replace HI := zh (HI.out.step hk jg);refine hK.out _ _ (cellK (W := cw) (fp := []) (Keeps.refl [] _) HG.out rfl jg) (fun hSS => ?_);clear hK hk;refine zac ?_;have mk4 := True.intro
  | have mz := mk4
    clear mz mk4;refine qac ?_;refine AllReadyH.cons rfl (fun K hK => ?_) AllReadyH.nil;have HLHS2 : Hid (u4.heap.size ≤ cw.heap.size) := HZ
    go_simp
    refine hK.out _ _ (cellK (W := cw) (fp := []) zg HG.out rfl jg) (fun hSS => ?_);clear hK;refine zac ?_;refine qgc ?_;clear hSS
    rename World => bHS2
    rintro cw ⟨hk, hr, hSS⟩;replace HP := zh (HP.out.kp hk jg);replace HG := zh (hk.at HG.out jg);replace HO := zh (HO.out.step hk jg);replace HF := zh (own_step HF.out hk jg);replace HPP := zh (hk.at HPP.out jg);replace HKX := zh (HKX.out.step hk jg);replace HZ := zh (Nat.le_trans HZ.out hk.size);replace HP2 := zh (hk.at HP2.out jg);replace HI := zh (HI.out.step hk jg);have HS2 := zh hr;clear hk hr;have mk5 := True.intro
  | have mz := mk5
    clear mz mk5;refine zbc ?_;refine AllReadyH.cons rfl (fun K hK => ?_) AllReadyH.nil;replace HI : Hid (Nd u4.heap.size 5 cw (.agg #[.int .i64 40, .string ⟨#[]⟩, .float .f64 0, .slice (some ⟨bHS2.heap.size, 0, none⟩) 1 1, .complex .f64 0 0])) := zh ((Kd.row1 HS2.out HLHS2.out HI.out).mk zi);clear HS2;refine zhc ?_
    rename World => ow
    rintro v cw ⟨rfl, hk⟩;replace HP := zh (HP.out.kp hk jg);replace HG := zh (hk.at HG.out jg);replace HO := zh (HO.out.step hk jg);replace HF := zh (own_step HF.out hk jg);replace HPP := zh (hk.at HPP.out jg);replace HKX := zh (HKX.out.step hk jg);replace HZ := zh (Nat.le_trans HZ.out hk.size);replace HP2 := zh (hk.at HP2.out jg);replace HI := zh (HI.out.step hk jg);refine hK.out _ _ (cellK (W := cw) (fp := []) (Keeps.refl [] _) HG.out rfl jg) (fun hSS => ?_);clear hK hk;refine zac ?_;have mk6 := True.intro
  | have mz := mk6
    clear mz mk6;refine jbc ?_;refine AllReadyH.cons rfl (fun K hK => ?_) AllReadyH.nil;have HLHS3 : Hid (u4.heap.size ≤ cw.heap.size) := HZ
    go_simp
    refine hK.out _ _ (cellK (W := cw) (fp := []) zg HG.out rfl jg) (fun hSS => ?_);clear hK;refine zac ?_;refine jhc ?_;clear hSS
    rename World => bHS3
    rintro cw ⟨hk, hr, hSS⟩;replace HP := zh (HP.out.kp hk jg);replace HG := zh (hk.at HG.out jg);replace HO := zh (HO.out.step hk jg);replace HF := zh (own_step HF.out hk jg);replace HPP := zh (hk.at HPP.out jg);replace HKX := zh (HKX.out.step hk jg);replace HZ := zh (Nat.le_trans HZ.out hk.size);replace HP2 := zh (hk.at HP2.out jg);replace HI := zh (HI.out.step hk jg);have HS3 := zh hr;clear hk hr;have mk7 := True.intro
  | have mz := mk7
    clear mz mk7;refine wpAnyH_ready (rs := [11]) jh jg ?_;refine AllReadyH.cons rfl (fun K hK => ?_) AllReadyH.nil;replace HI : Hid (Nd u4.heap.size 6 cw (.agg #[.int .i64 30, .string ⟨#[]⟩, .float .f64 0, .slice (some ⟨bHS3.heap.size, 0, none⟩) 1 1, .complex .f64 0 0])) := zh ((Kd.row1 HS3.out HLHS3.out HI.out).mk zi);clear HS3;refine qhc ?_
    rename World => ow
    rintro v cw ⟨rfl, hk⟩;replace HP := zh (HP.out.kp hk jg);replace HG := zh (hk.at HG.out jg);replace HO := zh (HO.out.step hk jg);replace HF := zh (own_step HF.out hk jg);replace HPP := zh (hk.at HPP.out jg);replace HKX := zh (HKX.out.step hk jg);replace HZ := zh (Nat.le_trans HZ.out hk.size);replace HP2 := zh (hk.at HP2.out jg);replace HI := zh (HI.out.step hk jg);refine hK.out _ _ (cellK (W := cw) (fp := []) (Keeps.refl [] _) HG.out rfl jg) (fun hSS => ?_);clear hK hk;refine zac ?_;have mk8 := True.intro)
 all_goals
  clear mk8;refine wpAnyH_take (i := 12) (v := ?_) rfl jh jh jh (fun c a' w' => hR3 c _ _ _ (fun h => h)) (Or.inl ⟨by rfl, ?_⟩) hSS ?_
  rotate_left
  ·intro w' hSw; (try dsimp only at hSw); go_simp; (try with_reducible rfl)
  refine jzb ?_;refine wpAnyH_ready (rs := [13]) jh jg ?_;refine AllReadyH.cons rfl (fun K hK => ?_) AllReadyH.nil;have HLHFB : Hid (u4.heap.size ≤ cw.heap.size) := HZ
  go_simp
  refine hK.out _ _ (cellK (W := cw) (fp := []) zg HG.out rfl jg) (fun hSS => ?_);clear hK;refine zac ?_;refine anyH_at (fun V => Keeps [] cw V ∧ V.heap[cw.heap.size]? = some (.cells #[.string ⟨#[103]⟩, .slice (some ⟨bHP2.heap.size, 0, none⟩) 1 1, .int .i64 30, .string ⟨#[]⟩, .float .f64 0, .slice (some ⟨bHS3.heap.size, 0, none⟩) 1 1, .complex .f64 0 0, .complex .f64 0 0] 61 (0, 0)) ∧ V.cell? ⟨G, 1, none⟩ = some (.slice (some ⟨F, 0, none⟩) 1 cp)) ⟨zg, qd, hSS⟩ ?_;clear hSS
  rename World => bHFB
  rintro cw ⟨hk, hr, hSS⟩;replace HP := zh (HP.out.kp hk jg);replace HG := zh (hk.at HG.out jg);replace HO := zh (HO.out.step hk jg);replace HF := zh (own_step HF.out hk jg);replace HPP := zh (hk.at HPP.out jg);replace HKX := zh (HKX.out.step hk jg);replace HZ := zh (Nat.le_trans HZ.out hk.size);replace HP2 := zh (hk.at HP2.out jg);replace HI := zh (HI.out.step hk jg);have HFB := zh hr;clear hk hr;refine wpAnyH_ready (rs := [14]) jh jg ?_;refine AllReadyH.cons rfl (fun K hK => ?_) AllReadyH.nil;have HVZ := HZ;refine step_fun1 rfl (.tmp 138) (.tmp 150) rfl rfl rfl HF.out HFB.out qn (by have := HZ.out; have := HGE.out; have := HB4.out; have := HF4.out; have := HP.out.keep.size; have := HB1.out; have := HB2.out; have := HB3.out; omega) ?_;rintro gq cp2 wb hk hown hgq;have q0 := HGE.out; have q1 := HB1.out; have q2 := HB2.out; have q3 := HB3.out; have q4 := HB4.out; have q5 := HB5.out; have q7 := HEe.out; have q8 := HF4.out;replace HP := zh (HP.out.kp hk qi);replace HG := zh (hk.at HG.out qi);replace HO := zh (HO.out.step hk qi);replace HPP := zh (hk.at HPP.out qi);replace HP2 := zh (hk.at HP2.out (by simp; have := HLHP2.out; omega));replace HKX := zh (HKX.out.step hk jg);replace HI := zh (HI.out.step hk qi);have HF2 := zh hown;have HGQ : Hid (gq = F ∨ u4.heap.size ≤ gq) := zh (by have := HVZ.out; omega);clear HF HFB q0 q1 q2 q3 q4 q5 q7 q8;refine hK.out _ _ (cellK (W := wb) (fp := []) (Keeps.refl [] _) HG.out rfl jg) (fun hSS => ?_);clear hK hk hown hgq;refine zac ?_
  refine wpAnyH_take (i := 15) (v := ?_) rfl jh jh jh (fun c a' w' => hR3 c _ _ _ (fun h => h)) (Or.inl ⟨by rfl, ?_⟩) hSS ?_
  rotate_left
  ·intro w' hSw; (try dsimp only at hSw); go_simp; (try with_reducible rfl)
  refine jzb ?_;obtain ⟨lG, g0, g1, h0, h1⟩ := cf2 HG.out;refine wpAnyH_done jh ?_ _;refine hR1 _ _ (fun K' hK' => ?_);have HQQ := zh hK';clear hR1 hR3 hSS hK'
  go_simp
  refine HQQ.out _ _ ?_;clear HQQ;refine inv_at (fun V => Keeps [G] wb V ∧ V.heap[G]? = some (.cells #[.slice va m vc, .slice (some ⟨gq, 0, none⟩) 2 cp2] 33 (0, 0))) ⟨zg, (ze HG.out)⟩ ?_;rintro wg ⟨hk, hr⟩;have q0 := HGE.out; have q1 := HB1.out; have q2 := HB2.out; have q3 := HB3.out; have q4 := HB4.out; have q5 := HB5.out; have q7 := HEe.out; have q8 := HF4.out; have q9 := HLHP2.out; have qa := HGQ.out;replace HP := zh (HP.out.kp hk qi);replace HO := zh (HO.out.step hk qi);replace HPP := zh (hk.at HPP.out qi);replace HP2 := zh (hk.at HP2.out qi);replace HKX := zh (HKX.out.step hk qi);replace HI := zh (HI.out.step hk qi);replace HF2 := zh (own_stepN HF2.out hk qi);replace HG := zh hr;clear hk hr lG g0 g1 h0 h1 q0 q1 q2 q3 q4 q5 q7 q8 q9 qa;obtain ⟨lG, g0, g1, h0, h1⟩ := cf2 HG.out;obtain ⟨lR, r0, r1, s0, s1⟩ := cf2 HP.out.res
  go_wp2_with fail
  refine ret_at (v := .agg #[.slice va m vc, .slice (some ⟨gq, 0, none⟩) 2 cp2]) (fun U => Keeps [w.heap.size] wg U ∧ U.heap[w.heap.size]? = some (.cells #[.slice va m vc, .slice (some ⟨gq, 0, none⟩) 2 cp2] 33 (0, 0))) ⟨zg, (ze HP.out.res)⟩ (fun U hU => ?_) rfl (fun U hU => ?_)
  ·obtain ⟨-, x0, x1, -, -⟩ := cf2 hU.2;simp [results, rsA, go_sem, x0, x1]
  have hk := hU.1;have q0 := HGE.out; have q1 := HB1.out; have q2 := HB2.out; have q3 := HB3.out; have q4 := HB4.out; have q5 := HB5.out; have q7 := HEe.out; have q8 := HF4.out; have q9 := HLHP2.out; have qa := HGQ.out;obtain ⟨gp, hgp, hwf⟩ := prog_fin (ka2 := 0) (HO.out.step hk jg) qg (b := w.heap.size + 3) qg (own_stepN HF2.out hk qi) (hk.at HPP.out qi) (hk.at HP2.out qi) qg qg ((HKX.out.step hk qi).kd qg qg) ((HI.out.step hk qi).to qg qg);exact ⟨gp, _, rfl, hgp, hwf, HP.out.keep.trans hk jg⟩
theorem program_any {M : MKey} (hM : MFix M) {w : World} (hk : M.k = w.heap.size + 1) (hw0 : M.w0 = w) : Calls Tryz.prog 14 #[.slice M.la M.ln M.lc] w fun r w' => ∃ g v, r = .returned v ∧ ProgV w' (fun x => w.heap.size ≤ x) g v ∧ WfP g ∧ Keeps [] w w' :=
 progPart.2 (Wrap.mk (progPart2.2 (Wrap.mk (progPart3.2 (Wrap.mk progRest))))) M hM w hk hw0
end Go.Proofs.YtkfillfkbhbbjaaGreatDoor
