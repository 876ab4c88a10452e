/- MkS. -/
import Derived.Test.YtkfillfkbhbbjaaGreatDoorMkQ
set_option maxRecDepth 100000
set_option maxHeartbeats 4000000
set_option linter.unusedSimpArgs false
set_option linter.unusedVariables false
namespace Go.Proofs.YtkfillfkbhbbjaaGreatDoor
open Go.RowKit
attribute [local go_sem] run_pick12
set_option maxHeartbeats 40000000 in
def progPart2 : { X : Prop // Wrap X → progPart.1 } := by
 apply Subtype.mk
 ·intro hX;unfold progPart
  dsimp only
  intro M hM w hw0 HW HKE Kz1 az2 w1 G HGE w2 y gk wr u6 u13 u14 u15 u16 u17 u18 u19 u20 u21 u22 u23 u24 u25 u26 u27 u28 u29 u30 u31 u32 u33 u34 u35 u36 u37 u38 u39 u40 u41 u42 u43 u44 u45 u46 u47 u48 u49 u50 u51 u52 u53 u54 u55 u56 u57 u58 u59 u60 u61 u62 u63 u64 u65 u66 u67 u68 u69 u70 u71 u72 u73 u74 u75 u76 u77 Jz Kz az1 az i m e J hi0 him hig hJ HP HEe HE3 va vc HO HG hlt;obtain rfl : i = 0 := by omega
  obtain ⟨i9, n9, l9, hi9, hn9, hl91, hl92, hm9⟩ := HP.out.mak;obtain ⟨l_k, x0, x1, x2, x3, x4, y0, y1, y2, y3, y4⟩ := cf5 hm9.row;have HM9 := zh hm9;clear hm9
  go_upto_region 21 with fail
  refine wp_at (fun W => Keeps [M.k] wr W ∧ W.heap[M.k]? = some (.cells #[.slice M.la M.ln M.lc, .int .i64 i9, .int .i64 60, .bool true, .int .i64 l9] 77 (0, 0))) ⟨zg, (ze HM9.out.row)⟩ ?_;rintro u0 ⟨hk, hr⟩;replace HP : Hid (Pg M J true w u0) := zh (HP.out.call ⟨i9, 60, l9, hi9, by omega, hl91, hl92, HM9.out.upd HP.out.fix hk (by exact_mod_cast hr)⟩ hk);replace HG := zh (hk.at HG.out ji);replace HO := zh (HO.out.step hk ji);have HEe := zh (Nat.le_trans HEe.out hk.size);have HZ : Hid (u0.heap.size ≤ u0.heap.size) := zh (Nat.le_refl _);have lb0 := h_lt HG.out;clear hk hr HM9 hi9 hn9 hl91 hl92 l_k x0 x1 x2 x3 x4 y0 y1 y2 y3 y4
  go_cut [] (fun W => FnA M w G u0.heap.size J e m (.slice va m vc) W)
  case first =>
   go_wp2_with fail
   refine wp_region_tailH (n := 9) (S := fun V => V.cell? ⟨G, 1, none⟩ = some (.slice none 0 0)) (st := 31) (p := .tmp 92) (v := .tmp 91) jh jh jh rfl (cellK (W := u0) (fp := []) (by exact kD (k0 [] u0)) HG.out rfl jg) ?_;intro Rq hR1 hR3 hSS;refine zzb ?_;refine anyH_at (fun V => Keeps [] u0 V ∧ V.cell? ⟨G, 1, none⟩ = some (.slice none 0 0)) ⟨(by exact kD (k0 [] u0)), hSS⟩ ?_;clear hSS;rintro w101 ⟨hk, hSS⟩;replace HP := zh (HP.out.kp hk jg);replace HG := zh (hk.at HG.out jg);replace HO := zh (HO.out.step hk jg);replace HZ := zh (Nat.le_trans HZ.out hk.size);clear hk;refine wpAnyH_take (i := 0) (v := ?_) rfl jh jh jh (fun c a' w' => hR3 c _ _ _ (fun h => h)) (Or.inl ⟨by rfl, ?_⟩) hSS ?_
   rotate_left
   ·intro w' hSw; (try dsimp only at hSw); go_simp; (try with_reducible rfl)
   refine jzb ?_;refine wpAnyH_take (i := 1) (v := ?_) rfl jh jh jh (fun c a' w' => hR3 c _ _ _ (fun h => h)) (Or.inl ⟨by rfl, ?_⟩) hSS ?_
   rotate_left
   ·intro w' hSw; (try dsimp only at hSw); go_simp; (try with_reducible rfl)
   refine jzb ?_;refine wpAnyH_take (i := 3) (v := ?_) rfl jh jh jh (fun c a' w' => hR3 c _ _ _ (fun h => h)) (Or.inl ⟨by rfl, ?_⟩) hSS ?_
   rotate_left
   ·intro w' hSw; (try dsimp only at hSw); go_simp; (try with_reducible rfl)
   refine jzb ?_;refine wpAnyH_ready (rs := [2, 4]) jh jg ?_;refine AllReadyH.cons rfl (fun K hK => ?_) (AllReadyH.cons rfl (fun K hK => ?_) AllReadyH.nil)
   ·have HLHPP : Hid (u0.heap.size ≤ w101.heap.size) := HZ
    go_simp
    refine hK.out _ _ (cellK (W := w101) (fp := []) zg HG.out rfl jg) (fun hSS => ?_);clear hK;refine zac ?_;refine anyH_at (fun V => Keeps [] w101 V ∧ V.heap[w101.heap.size]? = some (.cells #[.string ⟨#[112]⟩, .string ⟨#[113]⟩] 9 (0, 0)) ∧ V.cell? ⟨G, 1, none⟩ = some (.slice none 0 0)) ⟨zg, qd, hSS⟩ ?_;clear hSS;rintro w102 ⟨hk, hr, hSS⟩;replace HP := zh (HP.out.kp hk jg);replace HG := zh (hk.at HG.out jg);replace HO := zh (HO.out.step hk jg);replace HZ := zh (Nat.le_trans HZ.out hk.size);have HPP := zh hr;clear hk hr;refine wpAnyH_ready (rs := [4]) jh jg ?_;refine AllReadyH.cons rfl (fun K hK => ?_) AllReadyH.nil;have HBK : Hid (u0.heap.size ≤ w102.heap.size) := HZ;have HPl := h_lt HPP.out;refine zdc ?_;rintro v w103 ⟨ba, bm, bc, hbm, rfl, hob, hm, hk⟩;have HBE : Hid (w102.heap.size ≤ w103.heap.size) := zh hk.size;replace HP := zh (HP.out.call hm hk);replace HG := zh (hk.at HG.out ji);replace HO := zh (HO.out.step hk ji);replace HZ := zh (Nat.le_trans HZ.out hk.size);replace HPP := zh (hk.at HPP.out (by have := HLHPP.out; have := HKE.out; have := HGE.out; simp; omega));have HOb := zh hob;refine hK.out _ _ (cellK (W := w103) (fp := []) (Keeps.refl [] _) HG.out rfl jg) (fun hSS => ?_);clear hK hob hm hk;refine zac ?_;have HPo : Hid (w101.heap.size < w102.heap.size ∨ w103.heap.size ≤ w101.heap.size) := zh (.inl HPl);clear HPl;have HEK : Hid (w103.heap.size ≤ w103.heap.size) := zh (Nat.le_refl _)
    refine wpAnyH_take (i := 5) (v := ?_) rfl jh jh jh (fun c a' w' => hR3 c _ _ _ (fun h => h)) (Or.inl ⟨by rfl, ?_⟩) hSS ?_
    rotate_left
    ·intro w' hSw; (try dsimp only at hSw); go_simp; (try with_reducible rfl)
    refine jzb ?_;refine jac ?_;refine AllReadyH.cons rfl (fun K hK => ?_) AllReadyH.nil;have HLHFB : Hid (u0.heap.size ≤ w103.heap.size) := HZ
    go_simp
    refine hK.out _ _ (cellK (W := w103) (fp := []) zg HG.out rfl jg) (fun hSS => ?_);clear hK;refine zac ?_;refine anyH_at (fun V => Keeps [] w103 V ∧ V.heap[w103.heap.size]? = some (.cells #[.string ⟨#[102]⟩, .slice (some ⟨w101.heap.size, 0, none⟩) 2 2, .int .i64 30, .string ⟨#[]⟩, .float .f64 0, .slice ba bm bc, .complex .f64 0 0, .complex .f64 0 0] 61 (0, 0)) ∧ V.cell? ⟨G, 1, none⟩ = some (.slice none 0 0)) ⟨zg, qd, hSS⟩ ?_;clear hSS;rintro w104 ⟨hk, hr, hSS⟩;replace HP := zh (HP.out.kp hk jg);replace HG := zh (hk.at HG.out jg);replace HO := zh (HO.out.step hk jg);replace HZ := zh (Nat.le_trans HZ.out hk.size);replace HPP := zh (hk.at HPP.out jg);replace HOb := zh (HOb.out.step hk jg);replace HEK := zh (Nat.le_trans HEK.out hk.size);have HFB := zh hr;clear hk hr;refine wpAnyH_ready (rs := [7]) jh jg ?_;refine AllReadyH.cons rfl (fun K hK => ?_) AllReadyH.nil;have HPF := zh (h_lt HPP.out);have HEF := HEK;refine jdc ?_;rintro cp wb hk hown;replace HP := zh (HP.out.kp hk jg);replace HG := zh (hk.at HG.out jg);replace HO := zh (HO.out.step hk jg);replace HZ := zh (Nat.le_trans HZ.out hk.size);replace HPP := zh (hk.at HPP.out jg);replace HOb := zh (HOb.out.step hk jg);replace HEK := zh (Nat.le_trans HEK.out hk.size);replace HFB := zh (hk.at HFB.out jg);have HF := zh hown;refine hK.out _ _ (cellK (W := wb) (fp := []) (Keeps.refl [] _) HG.out rfl jg) (fun hSS => ?_);clear hK hk hown HFB;refine zac ?_
    refine wpAnyH_take (i := 8) (v := ?_) rfl jh jh jh (fun c a' w' => hR3 c _ _ _ (fun h => h)) (Or.inl ⟨by rfl, ?_⟩) hSS ?_
    rotate_left
    ·intro w' hSw; (try dsimp only at hSw); go_simp; (try with_reducible rfl)
    refine jzb ?_;obtain ⟨lG, g0, g1, h0, h1⟩ := cf2 HG.out;refine wpAnyH_done jh ?_ _;refine hR1 _ _ (fun K' hK' => ?_);have HQQ := zh hK';clear hR1 hR3 hSS hK'
    go_simp
    refine HQQ.out _ _ ?_;clear HQQ;refine inv_at (fun V => Keeps [G] wb V ∧ V.heap[G]? = some (.cells #[.slice va m vc, .slice (some ⟨w104.heap.size, 0, none⟩) 1 cp] 33 (0, 0))) ⟨zg, (ze HG.out)⟩ ?_;rintro wg ⟨hk, hr⟩
    go_wp2_with fail
    go_meet
    have q1 := HBK.out; have q2 := HLHPP.out; have q3 := HPF.out; have q4 := HEF.out; have q5 := HGE.out; have q6 := HBE.out;exact ⟨w101.heap.size, w104.heap.size, cp, w102.heap.size, w103.heap.size, bm, bc, _, ba, by omega, HP.out.kp hk qi, hr, HO.out.step hk qi, own_step HF.out hk qi, hk.at HPP.out qi, HOb.out.step hk qi, hbm, q1, q6, q4, q2, q3, HPo.out⟩
   have HBK : Hid (u0.heap.size ≤ w101.heap.size) := HZ;refine zdc ?_;rintro v w105 ⟨ba, bm, bc, hbm, rfl, hob, hm, hk⟩;have HBE : Hid (w101.heap.size ≤ w105.heap.size) := zh hk.size;replace HP := zh (HP.out.call hm hk);replace HG := zh (hk.at HG.out ji);replace HO := zh (HO.out.step hk ji);replace HZ := zh (Nat.le_trans HZ.out hk.size);have HOb := zh hob;refine hK.out _ _ (cellK (W := w105) (fp := []) (Keeps.refl [] _) HG.out rfl jg) (fun hSS => ?_);clear hK hob hm hk;refine zac ?_;have HEK : Hid (w105.heap.size ≤ w105.heap.size) := zh (Nat.le_refl _);refine wpAnyH_ready (rs := [2]) jh jg ?_;refine AllReadyH.cons rfl (fun K hK => ?_) AllReadyH.nil;have HLHPP : Hid (u0.heap.size ≤ w105.heap.size) := HZ
   go_simp
   refine hK.out _ _ (cellK (W := w105) (fp := []) zg HG.out rfl jg) (fun hSS => ?_);clear hK;refine zac ?_;refine anyH_at (fun V => Keeps [] w105 V ∧ V.heap[w105.heap.size]? = some (.cells #[.string ⟨#[112]⟩, .string ⟨#[113]⟩] 9 (0, 0)) ∧ V.cell? ⟨G, 1, none⟩ = some (.slice none 0 0)) ⟨zg, qd, hSS⟩ ?_;clear hSS;rintro w106 ⟨hk, hr, hSS⟩;replace HP := zh (HP.out.kp hk jg);replace HG := zh (hk.at HG.out jg);replace HO := zh (HO.out.step hk jg);replace HZ := zh (Nat.le_trans HZ.out hk.size);replace HOb := zh (HOb.out.step hk jg);replace HEK := zh (Nat.le_trans HEK.out hk.size);have HPP := zh hr;clear hk hr;have HPo : Hid (w105.heap.size < w101.heap.size ∨ w105.heap.size ≤ w105.heap.size) := zh (.inr (Nat.le_refl _));refine wpAnyH_take (i := 5) (v := ?_) rfl jh jh jh (fun c a' w' => hR3 c _ _ _ (fun h => h)) (Or.inl ⟨by rfl, ?_⟩) hSS ?_
   rotate_left
   ·intro w' hSw; (try dsimp only at hSw); go_simp; (try with_reducible rfl)
   refine jzb ?_;refine jac ?_;refine AllReadyH.cons rfl (fun K hK => ?_) AllReadyH.nil;have HLHFB : Hid (u0.heap.size ≤ w106.heap.size) := HZ
   go_simp
   refine hK.out _ _ (cellK (W := w106) (fp := []) zg HG.out rfl jg) (fun hSS => ?_);clear hK;refine zac ?_;refine anyH_at (fun V => Keeps [] w106 V ∧ V.heap[w106.heap.size]? = some (.cells #[.string ⟨#[102]⟩, .slice (some ⟨w105.heap.size, 0, none⟩) 2 2, .int .i64 30, .string ⟨#[]⟩, .float .f64 0, .slice ba bm bc, .complex .f64 0 0, .complex .f64 0 0] 61 (0, 0)) ∧ V.cell? ⟨G, 1, none⟩ = some (.slice none 0 0)) ⟨zg, qd, hSS⟩ ?_;clear hSS;rintro w107 ⟨hk, hr, hSS⟩;replace HP := zh (HP.out.kp hk jg);replace HG := zh (hk.at HG.out jg);replace HO := zh (HO.out.step hk jg);replace HZ := zh (Nat.le_trans HZ.out hk.size);replace HOb := zh (HOb.out.step hk jg);replace HEK := zh (Nat.le_trans HEK.out hk.size);replace HPP := zh (hk.at HPP.out jg);have HFB := zh hr;clear hk hr;refine wpAnyH_ready (rs := [7]) jh jg ?_;refine AllReadyH.cons rfl (fun K hK => ?_) AllReadyH.nil;have HPF := zh (h_lt HPP.out);have HEF := HEK;refine jdc ?_;rintro cp wb hk hown;replace HP := zh (HP.out.kp hk jg);replace HG := zh (hk.at HG.out jg);replace HO := zh (HO.out.step hk jg);replace HZ := zh (Nat.le_trans HZ.out hk.size);replace HOb := zh (HOb.out.step hk jg);replace HEK := zh (Nat.le_trans HEK.out hk.size);replace HPP := zh (hk.at HPP.out jg);replace HFB := zh (hk.at HFB.out jg);have HF := zh hown;refine hK.out _ _ (cellK (W := wb) (fp := []) (Keeps.refl [] _) HG.out rfl jg) (fun hSS => ?_);clear hK hk hown HFB;refine zac ?_
   refine wpAnyH_take (i := 8) (v := ?_) rfl jh jh jh (fun c a' w' => hR3 c _ _ _ (fun h => h)) (Or.inl ⟨by rfl, ?_⟩) hSS ?_
   rotate_left
   ·intro w' hSw; (try dsimp only at hSw); go_simp; (try with_reducible rfl)
   refine jzb ?_;obtain ⟨lG, g0, g1, h0, h1⟩ := cf2 HG.out;refine wpAnyH_done jh ?_ _;refine hR1 _ _ (fun K' hK' => ?_);have HQQ := zh hK';clear hR1 hR3 hSS hK'
   go_simp
   refine HQQ.out _ _ ?_;clear HQQ;refine inv_at (fun V => Keeps [G] wb V ∧ V.heap[G]? = some (.cells #[.slice va m vc, .slice (some ⟨w107.heap.size, 0, none⟩) 1 cp] 33 (0, 0))) ⟨zg, (ze HG.out)⟩ ?_;rintro wg ⟨hk, hr⟩
   go_wp2_with fail
   go_meet
   have q1 := HBK.out; have q2 := HLHPP.out; have q3 := HPF.out; have q4 := HEF.out; have q5 := HGE.out; have q6 := HBE.out;exact ⟨w105.heap.size, w107.heap.size, cp, w101.heap.size, w105.heap.size, bm, bc, _, ba, by omega, HP.out.kp hk qi, hr, HO.out.step hk qi, own_step HF.out hk qi, hk.at HPP.out qi, HOb.out.step hk qi, hbm, q1, q6, q4, q2, q3, HPo.out⟩
  clear az az1;rename_i Q1 K1 a1 Q2 K2 a2;refine a2 _ _ ?_;clear a1 a2 K1 K2
  revert M w Kz1 w1 G w2 y gk wr u6 Kz Jz m e J va vc i9 n9 l9 u0 wc u7 u8 u9 u10 u11 u12 u13 u14 u15 u16 u17 u18 u19 u20 u21 u22 u23 u24 u25 u28 u29 u30 u31 u32 u34 u35 u36 u37 u38 u39 u40 u42 u43 u44 u45 u46 u47 u48 u49 u50 u51 u52 u53 u54 u55 u56 u57 u58 u59 u60 u61 u62 u63 u64 u65 u66 u67 u68 u69 u70 u71 u72 u73 u74 u75 u76 u77 u78 u79 u80 u81 u82 u83 u84 u85 u86 u87 u88 u89 u90 u91 u92 u93 u94 u95 u96 u97 u98 u99 u100 u101 u102 u103 u104 u107 u109 u110 u111 u112 u113 u114 u115 u116 u117 u118 u119 u120 u121 u122 u123 u124 u125 u126 u127 u128 u129 u130 u131 u132 u133 u134 u135 u136 u137 u138 u139 u140 u141 u142 u143 u144 u145 u146 u147 u148 u149 u150 u151 u152 u153 u26 u27 u33 u41
  exact Wrap.out hX
end Go.Proofs.YtkfillfkbhbbjaaGreatDoor
