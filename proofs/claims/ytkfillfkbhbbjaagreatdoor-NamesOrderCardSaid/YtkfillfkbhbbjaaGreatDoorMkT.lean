/- MkT. -/
import Derived.Test.YtkfillfkbhbbjaaGreatDoorMkS
set_option maxRecDepth 100000
set_option maxHeartbeats 4000000
set_option linter.unusedSimpArgs false
set_option linter.unusedVariables false
namespace Go.Proofs.YtkfillfkbhbbjaaGreatDoor
open Go.RowKit
attribute [local go_sem] run_pick12
set_option maxHeartbeats 40000000 in
def progPart3 : { X : Prop // Wrap X → progPart2.1 } := by
 apply Subtype.mk
 ·intro hX;unfold progPart2
  dsimp only
  intro M hM w hw0 HW HKE Kz1 w1 G HGE w2 y gk wr u6 u26 u27 u33 u41 Jz Kz m e J hJ HEe0 HE3 va vc him hig i9 n9 l9 u0 HP HG HO HEe HZ lb0 wc u7 u8 u9 u10 u11 u12 u13 u14 u15 u16 u17 u18 u19 u20 u21 u22 u23 u24 u25 u28 u29 u30 u31 u32 u34 u35 u36 u37 u38 u39 u40 u42 u43 u44 u45 u46 u47 u48 u49 u50 u51 u52 u53 u54 u55 u56 u57 u58 u59 u60 u61 u62 u63 u64 u65 u66 u67 u68 u69 u70 u71 u72 u73 u74 u75 u76 u77 u78 u79 u80 u81 u82 u83 u84 u85 u86 u87 u88 u89 u90 u91 u92 u93 u94 u95 u96 u97 u98 u99 u100 u101 u102 u103 u104 u107 u109 u110 u111 u112 u113 u114 u115 u116 u117 u118 u119 u120 u121 u122 u123 u124 u125 u126 u127 u128 u129 u130 u131 u132 u133 u134 u135 u136 u137 u138 u139 u140 u141 u142 u143 u144 u145 u146 u147 u148 u149 u150 u151 u152 u153 hcut;obtain ⟨P, F, cp, bk, ek, bm, bc, J1, ba, hJ1, hP, cG, hO, hF, cP, hob, hbm, b1, b2, b3, b4, b5, b6⟩ := hcut;generalize wc = u1 at *
  clear HP HG HO;have HP := zh hP; have HG := zh cG; have HO := zh hO; have HF := zh hF; have HPP := zh cP; have HOb := zh hob;have HB1 := zh b1; have HB2 := zh b2; have HB3 := zh b3; have HB4 := zh b4; have HB5 := zh b5; have HB6 := zh b6;clear hP cG hO hF cP hob b1 b2 b3 b4 b5 b6 HZ
  go_upto_region 22 with fail
  go_cut [94] (fun s W => ∃ bb : Bool, s = .bool bb ∧ Keeps [] u1 W)
  case first =>
   go_wp2_with fail
   go_region
   all_goals
    go_wp2_with fail
    go_meet
    case rel => exact ⟨_, rfl, zg⟩
  obtain ⟨bb, rfl, hk⟩ := hcut;generalize wc = u2 at *
  replace HP := zh (HP.out.kp hk jg);replace HG := zh (hk.at HG.out jg);replace HO := zh (HO.out.step hk jg);replace HF := zh (own_step HF.out hk jg);replace HPP := zh (hk.at HPP.out jg);replace HOb := zh (HOb.out.step hk jg);have HZ : Hid (u2.heap.size ≤ u2.heap.size) := zh (Nat.le_refl _);have HFu : Hid (F < u2.heap.size) := zh (own_cells HF.out).1;clear hk
  go_upto_if 94 with fail
  go_cut [] (fun W => FnB M w G F cp P bk J1 e m (.slice va m vc) W)
  case first =>
   cases bb with
   | true =>
    go_wp2_with fail
    refine wp_region_tailH (n := 17) (S := fun V => (V.cell? ⟨G, 1, none⟩ = some (.slice (some ⟨F, 0, none⟩) 1 cp) ∧ V.cell? ⟨F, 5, none⟩ = some (.slice ba bm bc))) (st := 47) (p := .tmp 111) (v := .tmp 108) jh jh jh rfl (⟨cellK (W := u2) (fp := []) zw HG.out rfl jg, ((own_cells (own_step (W := u2) (fp := []) HF.out zw jg)).2 5 _ rfl).1⟩) ?_;intro Rq hR1 hR3 hSS;refine zzb ?_;refine qdc ?_;clear hSS;rintro cw ⟨hk, hSS⟩;replace HP := zh (HP.out.kp hk jg);replace HG := zh (hk.at HG.out jg);replace HO := zh (HO.out.step hk jg);replace HF := zh (own_step HF.out hk jg);replace HPP := zh (hk.at HPP.out jg);replace HZ := zh (Nat.le_trans HZ.out hk.size);replace HOb := zh (HOb.out.step hk jg);clear hk;refine wpAnyH_take (i := 0) (v := ?_) rfl jh jh jh (fun c a' w' => hR3 c _ _ _ (fun h => h)) (Or.inl ⟨by rfl, ?_⟩) hSS ?_
    rotate_left
    ·intro w' hSw; (try dsimp only at hSw); go_simp; (try with_reducible rfl)
    refine jzb ?_;refine wpAnyH_take (i := 1) (v := ?_) rfl jh jh jh (fun c a' w' => hR3 c _ _ _ (fun h => h)) (Or.inl ⟨by rfl, ?_⟩) hSS ?_
    rotate_left
    ·intro w' hSw; (try dsimp only at hSw); go_simp; (try with_reducible rfl)
    refine jzb ?_;refine wpAnyH_take (i := 2) (v := ?_) rfl jh jh jh (fun c a' w' => hR3 c _ _ _ (fun h => h)) (Or.inl ⟨by rfl, ?_⟩) hSS ?_
    rotate_left
    ·intro w' hSw; (try dsimp only at hSw); go_simp; (try with_reducible rfl)
    refine jzb ?_;refine wpAnyH_take (i := 3) (v := ?_) rfl jh jh jh (fun c a' w' => hR3 c _ _ _ (fun h => h)) (Or.inl ⟨by rfl, ?_⟩) hSS ?_
    rotate_left
    ·intro w' hSw; (try dsimp only at hSw); go_simp; (try with_reducible rfl)
    refine jzb ?_;refine wpAnyH_take (i := 4) (v := ?_) rfl jh jh jh (fun c a' w' => hR3 c _ _ _ (fun h => h)) (Or.inl ⟨by rfl, ?_⟩) hSS ?_
    rotate_left
    ·intro w' hSw; (try dsimp only at hSw); go_simp; (try with_reducible rfl)
    refine jzb ?_;refine wpAnyH_take (i := 5) (v := ?_) rfl jh jh jh (fun c a' w' => hR3 c _ _ _ (fun h => h)) (Or.inl ⟨by rfl, ?_⟩) hSS ?_
    rotate_left
    ·intro w' hSw; (try dsimp only at hSw); go_simp; (try with_reducible rfl)
    refine jzb ?_;refine wpAnyH_take (i := 11) (v := ?_) rfl jh jh jh (fun c a' w' => hR3 c _ _ _ (fun h => h)) (Or.inl ⟨by rfl, ?_⟩) hSS ?_
    rotate_left
    ·intro w' hSw; (try dsimp only at hSw); go_simp; (try with_reducible rfl)
    refine jzb ?_;have mk0 := True.intro;refine wpAnyH_ready (rs := [6, 12]) jh jg ?_;refine AllReadyH.cons rfl (fun K hK => ?_) (AllReadyH.cons rfl (fun K hK => ?_) AllReadyH.nil);refine zec ?_
    rename World => ow
    rintro v cw ⟨rfl, hk⟩;replace HP := zh (HP.out.kp hk jg);replace HG := zh (hk.at HG.out jg);replace HO := zh (HO.out.step hk jg);replace HF := zh (own_step HF.out hk jg);replace HPP := zh (hk.at HPP.out jg);replace HZ := zh (Nat.le_trans HZ.out hk.size);replace HOb := zh (HOb.out.step hk jg);refine hK.out _ _ (⟨cellK (W := cw) (fp := []) (Keeps.refl [] _) HG.out rfl jg, ((own_cells (own_step (W := cw) (fp := []) HF.out (Keeps.refl [] _) jg)).2 5 _ rfl).1⟩) (fun hSS => ?_);clear hK hk;refine zac ?_;clear mk0;have mk1 := True.intro;refine wpAnyH_ready (rs := [7, 12]) jh jg ?_;refine AllReadyH.cons rfl (fun K hK => ?_) (AllReadyH.cons rfl (fun K hK => ?_) AllReadyH.nil);have HLHS1 : Hid (u2.heap.size ≤ cw.heap.size) := HZ
    go_simp
    refine hK.out _ _ (⟨cellK (W := cw) (fp := []) zg HG.out rfl jg, ((own_cells (own_step (W := cw) (fp := []) HF.out zg jg)).2 5 _ rfl).1⟩) (fun hSS => ?_);clear hK;refine zac ?_;refine jec ?_;clear hSS
    rename World => bHS1
    rintro cw ⟨hk, hr, hSS⟩;replace HP := zh (HP.out.kp hk jg);replace HG := zh (hk.at HG.out jg);replace HO := zh (HO.out.step hk jg);replace HF := zh (own_step HF.out hk jg);replace HPP := zh (hk.at HPP.out jg);replace HZ := zh (Nat.le_trans HZ.out hk.size);replace HOb := zh (HOb.out.step hk jg);have HS1 := zh hr;clear hk hr;clear mk1;have mk2 := True.intro;refine wpAnyH_ready (rs := [8, 12]) jh jg ?_;refine AllReadyH.cons rfl (fun K hK => ?_) (AllReadyH.cons rfl (fun K hK => ?_) AllReadyH.nil);have HY : Hid (Nd u2.heap.size 2 cw (.agg #[.int .i64 5, .string ⟨#[113]⟩, .float .f64 0, .slice (some ⟨bHS1.heap.size, 0, none⟩) 1 1, .complex .f64 0 0])) := zh ((Kd.row1 HS1.out HLHS1.out (Nd.leaf _ _ _ _ _ _ _)).mk zi);clear HS1;refine qec ?_
    rename World => ow
    rintro v cw ⟨rfl, hk⟩;replace HP := zh (HP.out.kp hk jg);replace HG := zh (hk.at HG.out jg);replace HO := zh (HO.out.step hk jg);replace HF := zh (own_step HF.out hk jg);replace HPP := zh (hk.at HPP.out jg);replace HZ := zh (Nat.le_trans HZ.out hk.size);replace HOb := zh (HOb.out.step hk jg);replace HY := zh (HY.out.step hk jg);refine hK.out _ _ (⟨cellK (W := cw) (fp := []) (Keeps.refl [] _) HG.out rfl jg, ((own_cells (own_step (W := cw) (fp := []) HF.out (Keeps.refl [] _) jg)).2 5 _ rfl).1⟩) (fun hSS => ?_);clear hK hk;refine zac ?_;clear mk2;have mk3 := True.intro;refine wpAnyH_ready (rs := [9, 12]) jh jg ?_;refine AllReadyH.cons rfl (fun K hK => ?_) (AllReadyH.cons rfl (fun K hK => ?_) AllReadyH.nil);have HLHS2 : Hid (u2.heap.size ≤ cw.heap.size) := HZ
    go_simp
    refine hK.out _ _ (⟨cellK (W := cw) (fp := []) zg HG.out rfl jg, ((own_cells (own_step (W := cw) (fp := []) HF.out zg jg)).2 5 _ rfl).1⟩) (fun hSS => ?_);clear hK;refine zac ?_;refine zfc ?_;clear hSS
    rename World => bHS2
    rintro cw ⟨hk, hr, hSS⟩;replace HP := zh (HP.out.kp hk jg);replace HG := zh (hk.at HG.out jg);replace HO := zh (HO.out.step hk jg);replace HF := zh (own_step HF.out hk jg);replace HPP := zh (hk.at HPP.out jg);replace HZ := zh (Nat.le_trans HZ.out hk.size);replace HOb := zh (HOb.out.step hk jg);replace HY := zh (HY.out.step hk jg);have HS2 := zh hr;clear hk hr;clear mk3;have mk4 := True.intro;refine wpAnyH_ready (rs := [10, 12]) jh jg ?_;refine AllReadyH.cons rfl (fun K hK => ?_) (AllReadyH.cons rfl (fun K hK => ?_) AllReadyH.nil);replace HY : Hid (Nd u2.heap.size 3 cw (.agg #[.int .i64 44, .string ⟨#[]⟩, .float .f64 0, .slice (some ⟨bHS2.heap.size, 0, none⟩) 1 1, .complex .f64 0 0])) := zh ((Kd.row1 HS2.out HLHS2.out HY.out).mk zi);clear HS2;refine jfc ?_
    rename World => ow
    rintro v cw ⟨rfl, hk⟩;replace HP := zh (HP.out.kp hk jg);replace HG := zh (hk.at HG.out jg);replace HO := zh (HO.out.step hk jg);replace HF := zh (own_step HF.out hk jg);replace HPP := zh (hk.at HPP.out jg);replace HZ := zh (Nat.le_trans HZ.out hk.size);replace HOb := zh (HOb.out.step hk jg);replace HY := zh (HY.out.step hk jg);refine hK.out _ _ (⟨cellK (W := cw) (fp := []) (Keeps.refl [] _) HG.out rfl jg, ((own_cells (own_step (W := cw) (fp := []) HF.out (Keeps.refl [] _) jg)).2 5 _ rfl).1⟩) (fun hSS => ?_);clear hK hk;refine zac ?_;clear mk4;have mk5 := True.intro;refine wpAnyH_ready (rs := [12]) jh jg ?_;refine AllReadyH.cons rfl (fun K hK => ?_) AllReadyH.nil
    all_goals
     have HLHS0 : Hid (u2.heap.size ≤ cw.heap.size) := HZ
     go_simp
     refine hK.out _ _ (⟨cellK (W := cw) (fp := []) zg HG.out rfl jg, ((own_cells (own_step (W := cw) (fp := []) HF.out zg jg)).2 5 _ rfl).1⟩) (fun hSS => ?_);clear hK;refine zac ?_;refine anyH_at (fun V => Keeps [] cw V ∧ V.heap[cw.heap.size]? = some (.cells #[.int .i64 0, .string ⟨#[]⟩, .float .f64 0, .slice none 0 0, .complex .f64 0 0] 50 (0, 0)) ∧ (V.cell? ⟨G, 1, none⟩ = some (.slice (some ⟨F, 0, none⟩) 1 cp) ∧ V.cell? ⟨F, 5, none⟩ = some (.slice ba bm bc))) ⟨zg, qd, hSS⟩ ?_;clear hSS
     rename World => bHS0
     rintro cw ⟨hk, hr, hSS⟩;replace HP := zh (HP.out.kp hk jg);replace HG := zh (hk.at HG.out jg);replace HO := zh (HO.out.step hk jg);replace HF := zh (own_step HF.out hk jg);replace HPP := zh (hk.at HPP.out jg);replace HZ := zh (Nat.le_trans HZ.out hk.size);replace HOb := zh (HOb.out.step hk jg);try replace HS1 := zh (hk.at HS1.out jg)
     try replace HY := zh (HY.out.step hk jg)
     try replace HS2 := zh (hk.at HS2.out jg)
     have HS0 := zh hr;clear hk hr
    all_goals repeat (first
     | have mz := mk0
       clear mz mk0;refine jac ?_;refine AllReadyH.cons rfl (fun K hK => ?_) AllReadyH.nil;refine zec ?_
       rename World => ow
       rintro v cw ⟨rfl, hk⟩;replace HP := zh (HP.out.kp hk jg);replace HG := zh (hk.at HG.out jg);replace HO := zh (HO.out.step hk jg);replace HF := zh (own_step HF.out hk jg);replace HPP := zh (hk.at HPP.out jg);replace HZ := zh (Nat.le_trans HZ.out hk.size);replace HOb := zh (HOb.out.step hk jg);replace HS0 := zh (hk.at HS0.out jg);refine hK.out _ _ (⟨cellK (W := cw) (fp := []) (Keeps.refl [] _) HG.out rfl jg, ((own_cells (own_step (W := cw) (fp := []) HF.out (Keeps.refl [] _) jg)).2 5 _ rfl).1⟩) (fun hSS => ?_);clear hK hk;refine zac ?_;have mk1 := True.intro
     | have mz := mk1
       clear mz mk1;refine wpAnyH_ready (rs := [7]) jh jg ?_;refine AllReadyH.cons rfl (fun K hK => ?_) AllReadyH.nil;have HLHS1 : Hid (u2.heap.size ≤ cw.heap.size) := HZ
       go_simp
       refine hK.out _ _ (⟨cellK (W := cw) (fp := []) zg HG.out rfl jg, ((own_cells (own_step (W := cw) (fp := []) HF.out zg jg)).2 5 _ rfl).1⟩) (fun hSS => ?_);clear hK;refine zac ?_;refine jec ?_;clear hSS
       rename World => bHS1
       rintro cw ⟨hk, hr, hSS⟩;replace HP := zh (HP.out.kp hk jg);replace HG := zh (hk.at HG.out jg);replace HO := zh (HO.out.step hk jg);replace HF := zh (own_step HF.out hk jg);replace HPP := zh (hk.at HPP.out jg);replace HZ := zh (Nat.le_trans HZ.out hk.size);replace HOb := zh (HOb.out.step hk jg);replace HS0 := zh (hk.at HS0.out jg);have HS1 := zh hr;clear hk hr;have mk2 := True.intro
     | have mz := mk2
       clear mz mk2;refine qac ?_;refine AllReadyH.cons rfl (fun K hK => ?_) AllReadyH.nil;have HY : Hid (Nd u2.heap.size 2 cw (.agg #[.int .i64 5, .string ⟨#[113]⟩, .float .f64 0, .slice (some ⟨bHS1.heap.size, 0, none⟩) 1 1, .complex .f64 0 0])) := zh ((Kd.row1 HS1.out HLHS1.out (Nd.leaf _ _ _ _ _ _ _)).mk zi);clear HS1;refine qec ?_
       rename World => ow
       rintro v cw ⟨rfl, hk⟩;replace HP := zh (HP.out.kp hk jg);replace HG := zh (hk.at HG.out jg);replace HO := zh (HO.out.step hk jg);replace HF := zh (own_step HF.out hk jg);replace HPP := zh (hk.at HPP.out jg);replace HZ := zh (Nat.le_trans HZ.out hk.size);replace HOb := zh (HOb.out.step hk jg);replace HS0 := zh (hk.at HS0.out jg);replace HY := zh (HY.out.step hk jg);refine hK.out _ _ (⟨cellK (W := cw) (fp := []) (Keeps.refl [] _) HG.out rfl jg, ((own_cells (own_step (W := cw) (fp := []) HF.out (Keeps.refl [] _) jg)).2 5 _ rfl).1⟩) (fun hSS => ?_);clear hK hk;refine zac ?_;have mk3 := True.intro
     | have mz := mk3
       clear mz mk3;refine zbc ?_;refine AllReadyH.cons rfl (fun K hK => ?_) AllReadyH.nil;have HLHS2 : Hid (u2.heap.size ≤ cw.heap.size) := HZ
       go_simp
       refine hK.out _ _ (⟨cellK (W := cw) (fp := []) zg HG.out rfl jg, ((own_cells (own_step (W := cw) (fp := []) HF.out zg jg)).2 5 _ rfl).1⟩) (fun hSS => ?_);clear hK;refine zac ?_;refine zfc ?_;clear hSS
       rename World => bHS2
       rintro cw ⟨hk, hr, hSS⟩;replace HP := zh (HP.out.kp hk jg);replace HG := zh (hk.at HG.out jg);replace HO := zh (HO.out.step hk jg);replace HF := zh (own_step HF.out hk jg);replace HPP := zh (hk.at HPP.out jg);replace HZ := zh (Nat.le_trans HZ.out hk.size);replace HOb := zh (HOb.out.step hk jg);replace HS0 := zh (hk.at HS0.out jg);replace HY := zh (HY.out.step hk jg);have HS2 := zh hr;clear hk hr;have mk4 := True.intro
     | have mz := mk4
       clear mz mk4;refine jbc ?_;refine AllReadyH.cons rfl (fun K hK => ?_) AllReadyH.nil;replace HY : Hid (Nd u2.heap.size 3 cw (.agg #[.int .i64 44, .string ⟨#[]⟩, .float .f64 0, .slice (some ⟨bHS2.heap.size, 0, none⟩) 1 1, .complex .f64 0 0])) := zh ((Kd.row1 HS2.out HLHS2.out HY.out).mk zi);clear HS2;refine jfc ?_
       rename World => ow
       rintro v cw ⟨rfl, hk⟩;replace HP := zh (HP.out.kp hk jg);replace HG := zh (hk.at HG.out jg);replace HO := zh (HO.out.step hk jg);replace HF := zh (own_step HF.out hk jg);replace HPP := zh (hk.at HPP.out jg);replace HZ := zh (Nat.le_trans HZ.out hk.size);replace HOb := zh (HOb.out.step hk jg);replace HS0 := zh (hk.at HS0.out jg);replace HY := zh (HY.out.step hk jg);refine hK.out _ _ (⟨cellK (W := cw) (fp := []) (Keeps.refl [] _) HG.out rfl jg, ((own_cells (own_step (W := cw) (fp := []) HF.out (Keeps.refl [] _) jg)).2 5 _ rfl).1⟩) (fun hSS => ?_);clear hK hk;refine zac ?_;have mk5 := True.intro)
    all_goals
     clear mk5;refine wpAnyH_ready (rs := [13]) jh jg ?_;refine AllReadyH.cons rfl (fun K hK => ?_) AllReadyH.nil;have HVF : Hid (u2.heap.size ≤ cw.heap.size) := HZ;refine step_owZ rfl (.tmp 100) (.tmp 107) rfl rfl rfl HOb.out HS0.out (by have := HB3.out; have := HFu.out; have := HZ.out; omega) HB2.out qg ?_;rintro vb wb fl hfl hk ⟨ns, xx, hns1, hns2, hns3, hown⟩;obtain ⟨KK, cap', cur0, rfl, hTK, hcur0, hsz0, -⟩ := own_last hns1 hown;have HOWN := zh hown; have HTK := zh hTK;obtain ⟨yn, hy1, hy2, hy3⟩ := HY.out.bd;have HYB := zh (hy1.step hk (fun x hx => by have := hfl x hx; have := HB3.out; have := HFu.out; omega));have q0 := HGE.out; have q1 := HB1.out; have q2 := HB2.out; have q3 := HB3.out; have q4 := HB4.out; have q5 := HB5.out; have q6 := HB6.out; have q7 := HEe.out; have q8 := HFu.out;replace HP := zh (HP.out.kp hk (fun x hx => by have := hfl x hx; omega));replace HG := zh (hk.at HG.out (fun hx => by have := hfl _ hx; omega));replace HO := zh (HO.out.step hk (fun x hx => by have := hfl x hx; omega));replace HF := zh (own_step HF.out hk (fun hx => by have := hfl _ hx; omega));replace HPP := zh (hk.at HPP.out (fun hx => by have := hfl _ hx; omega));clear q0 q1 q2 q3 q4 q5 q6 q7 q8;clear HS0 HOb hown hcur0 hsz0 hTK HY hy1;refine hK.out _ _ (⟨cellK (W := wb) (fp := []) (Keeps.refl [] _) HG.out rfl jg, ((own_cells (own_step (W := wb) (fp := []) HF.out (Keeps.refl [] _) jg)).2 5 _ rfl).1⟩) (fun hSS => ?_);clear hK hk hfl;refine zac ?_
     refine wpAnyH_take (i := 14) (v := ?_) rfl jh jh jh (fun c a' w' => hR3 c _ _ _ (fun h => h)) (Or.inl ⟨by rfl, ?_⟩) hSS ?_
     rotate_left
     ·intro w' hSw; (try dsimp only at hSw); go_simp; (try with_reducible rfl)
     refine jzb ?_;refine wpAnyH_take (i := 15) (v := ?_) rfl jh jh jh (fun c a' w' => hR3 c _ _ _ (fun h => h)) (Or.inl ⟨by rfl, ?_⟩) hSS ?_
     rotate_left
     ·intro w' hSw; (try dsimp only at hSw); go_simp; (try with_reducible rfl)
     refine jzb ?_;refine wpAnyH_take (i := 16) (v := ?_) rfl jh jh jh (fun c a' w' => hR3 c _ _ _ (fun h => h)) (Or.inl ⟨by rfl, ?_⟩) hSS ?_
     rotate_left
     ·intro w' hSw; (try dsimp only at hSw); go_simp; (try with_reducible rfl)
     refine jzb ?_;obtain ⟨lF, hFc⟩ := own_cells HF.out;obtain ⟨h5a, h5b⟩ := hFc 5 _ rfl;obtain ⟨curF, hcurF, hsetF⟩ := own_set HF.out;refine wpAnyH_done jh ?_ _;refine hR1 _ _ (fun K' hK' => ?_);have HQQ := zh hK';have HHF := zh hsetF;clear hR1 hR3 hSS hK' hFc hsetF
     go_simp
     refine HQQ.out _ _ ?_;clear HQQ;refine inv_at (fun V => Keeps [F] wb V ∧ V.heap[F]? = some (.cells (curF.setIfInBounds 5 (.slice (some ⟨KK, 0, none⟩) (bm + 1) cap')) 61 (0, 0))) ⟨zg, (ze hcurF)⟩ ?_;rintro wg ⟨hk, hr⟩;have hFn := HHF.out _ _ hr;simp only [List.set_cons_succ, List.set_cons_zero] at hFn;have q0 := HGE.out; have q1 := HB1.out; have q2 := HB2.out; have q3 := HB3.out; have q4 := HB4.out; have q5 := HB5.out; have q6 := HB6.out; have q7 := HEe.out; have q8 := HFu.out;replace HP := zh (HP.out.kp hk qi);replace HG := zh (hk.at HG.out qi);replace HO := zh (HO.out.step hk qi);replace HPP := zh (hk.at HPP.out qi);replace HF := zh hFn;replace HOWN := zh (HOWN.out.kp nodeL hk (fun x hx hb => by simp at hx; have := HVF.out; omega));replace HYB := zh (HYB.out.step hk (by simp; have := HFu.out; omega));clear hk hr hFn hcurF h5a h5b lF HHF q0 q1 q2 q3 q4 q5 q6 q7 q8;obtain ⟨K2, cap2, cur, hv2, -, hcur, hsz, hlast⟩ := own_last hns1 HOWN.out;injection hv2 with e1 e2 e3
     injection e1 with e1
     injection e1 with e1
     subst e1 e3;have HLA := zh hlast;clear hlast e2;have lK := h_lt hcur;have s0 : wg.cell? ⟨KK, bm * 5, none⟩ = some (cur[bm * 5]'qg) := by rw [cell_of_heap hcur, Array.getElem?_eq_getElem]
     have s1 : wg.cell? ⟨KK, bm * 5 + 1, none⟩ = some (cur[bm * 5 + 1]'qg) := by rw [cell_of_heap hcur, Array.getElem?_eq_getElem]
     have s2 : wg.cell? ⟨KK, bm * 5 + 2, none⟩ = some (cur[bm * 5 + 2]'qg) := by rw [cell_of_heap hcur, Array.getElem?_eq_getElem]
     have s3 : wg.cell? ⟨KK, bm * 5 + 3, none⟩ = some (cur[bm * 5 + 3]'qg) := by rw [cell_of_heap hcur, Array.getElem?_eq_getElem]
     have s4 : wg.cell? ⟨KK, bm * 5 + 4, none⟩ = some (cur[bm * 5 + 4]'qg) := by rw [cell_of_heap hcur, Array.getElem?_eq_getElem]
     have p0 := frozen_of_heap hcur (bm * 5);have p1 := frozen_of_heap hcur (bm * 5 + 1);have p2 := frozen_of_heap hcur (bm * 5 + 2);have p3 := frozen_of_heap hcur (bm * 5 + 3);have p4 := frozen_of_heap hcur (bm * 5 + 4);have hbi : (bm : Int) < ((bm + 1 : Nat) : Int) := by omega
     have hbi2 : (bm : Int) < (bm : Int) + 1 := by omega
     go_wp2_with fail
     go_meet
     refine inv_at (fun V => Keeps [KK] wg V ∧ V.heap[KK]? = some (.cells (((((cur.setIfInBounds (bm * 5) (.int .i64 44)).setIfInBounds (bm * 5 + 1) (.string ⟨#[]⟩)).setIfInBounds (bm * 5 + 2) (.float .f64 0)).setIfInBounds (bm * 5 + 3) (.slice (some ⟨bHS2.heap.size, 0, none⟩) 1 1)).setIfInBounds (bm * 5 + 4) (.complex .f64 0 0)) 50 (0, 0))) ⟨zg, (ze hcur)⟩ ?_;rintro wh ⟨hk, hr⟩;have q0 := HGE.out; have q1 := HB1.out; have q2 := HB2.out; have q3 := HB3.out; have q4 := HB4.out; have q5 := HB5.out; have q6 := HB6.out; have q7 := HEe.out; have q8 := HFu.out;have q9 := HTK.out; have qa := HVF.out;have hyB := HYB.out.step hk qi;have hkr := HLA.out wh hk _ _ _ _ _ yn _ hr hyB (fun g h1 h2 => by omega);exact ⟨_, _, _, HP.out.kp hk qi, hk.at HG.out qi, HO.out.step hk qi, own_step HF.out hk qi, hk.at HPP.out qi, ⟨ns ++ [yn], hkr.keep (Keeps.refl [] wh) jg (fun x hx => by omega), wfK_snoc hns2 hy2, by rw [ksize_snoc]; omega⟩⟩
   | false =>
    go_wp2_with fail
    refine wp_region_tailH (n := 18) (S := fun V => (V.cell? ⟨G, 1, none⟩ = some (.slice (some ⟨F, 0, none⟩) 1 cp) ∧ V.cell? ⟨F, 5, none⟩ = some (.slice ba bm bc))) (st := 47) (p := .tmp 130) (v := .tmp 127) jh jh jh rfl (⟨cellK (W := u2) (fp := []) zw HG.out rfl jg, ((own_cells (own_step (W := u2) (fp := []) HF.out zw jg)).2 5 _ rfl).1⟩) ?_;intro Rq hR1 hR3 hSS;refine zzb ?_;refine qdc ?_;clear hSS;rintro cw ⟨hk, hSS⟩;replace HP := zh (HP.out.kp hk jg);replace HG := zh (hk.at HG.out jg);replace HO := zh (HO.out.step hk jg);replace HF := zh (own_step HF.out hk jg);replace HPP := zh (hk.at HPP.out jg);replace HZ := zh (Nat.le_trans HZ.out hk.size);replace HOb := zh (HOb.out.step hk jg);clear hk;refine wpAnyH_take (i := 0) (v := ?_) rfl jh jh jh (fun c a' w' => hR3 c _ _ _ (fun h => h)) (Or.inl ⟨by rfl, ?_⟩) hSS ?_
    rotate_left
    ·intro w' hSw; (try dsimp only at hSw); go_simp; (try with_reducible rfl)
    refine jzb ?_;refine wpAnyH_take (i := 1) (v := ?_) rfl jh jh jh (fun c a' w' => hR3 c _ _ _ (fun h => h)) (Or.inl ⟨by rfl, ?_⟩) hSS ?_
    rotate_left
    ·intro w' hSw; (try dsimp only at hSw); go_simp; (try with_reducible rfl)
    refine jzb ?_;refine wpAnyH_take (i := 2) (v := ?_) rfl jh jh jh (fun c a' w' => hR3 c _ _ _ (fun h => h)) (Or.inl ⟨by rfl, ?_⟩) hSS ?_
    rotate_left
    ·intro w' hSw; (try dsimp only at hSw); go_simp; (try with_reducible rfl)
    refine jzb ?_;refine wpAnyH_take (i := 3) (v := ?_) rfl jh jh jh (fun c a' w' => hR3 c _ _ _ (fun h => h)) (Or.inl ⟨by rfl, ?_⟩) hSS ?_
    rotate_left
    ·intro w' hSw; (try dsimp only at hSw); go_simp; (try with_reducible rfl)
    refine jzb ?_;refine wpAnyH_take (i := 4) (v := ?_) rfl jh jh jh (fun c a' w' => hR3 c _ _ _ (fun h => h)) (Or.inl ⟨by rfl, ?_⟩) hSS ?_
    rotate_left
    ·intro w' hSw; (try dsimp only at hSw); go_simp; (try with_reducible rfl)
    refine jzb ?_;refine wpAnyH_take (i := 5) (v := ?_) rfl jh jh jh (fun c a' w' => hR3 c _ _ _ (fun h => h)) (Or.inl ⟨by rfl, ?_⟩) hSS ?_
    rotate_left
    ·intro w' hSw; (try dsimp only at hSw); go_simp; (try with_reducible rfl)
    refine jzb ?_;refine wpAnyH_take (i := 6) (v := ?_) rfl jh jh jh (fun c a' w' => hR3 c _ _ _ (fun h => h)) (Or.inl ⟨by rfl, ?_⟩) hSS ?_
    rotate_left
    ·intro w' hSw; (try dsimp only at hSw); go_simp; (try with_reducible rfl)
    refine jzb ?_;refine wpAnyH_take (i := 7) (v := ?_) rfl jh jh jh (fun c a' w' => hR3 c _ _ _ (fun h => h)) (Or.inl ⟨by rfl, ?_⟩) hSS ?_
    rotate_left
    ·intro w' hSw; (try dsimp only at hSw); go_simp; (try with_reducible rfl)
    refine jzb ?_;refine qac ?_;refine AllReadyH.cons rfl (fun K hK => ?_) AllReadyH.nil;refine zec ?_
    rename World => ow
    rintro v cw ⟨rfl, hk⟩;replace HP := zh (HP.out.kp hk jg);replace HG := zh (hk.at HG.out jg);replace HO := zh (HO.out.step hk jg);replace HF := zh (own_step HF.out hk jg);replace HPP := zh (hk.at HPP.out jg);replace HZ := zh (Nat.le_trans HZ.out hk.size);replace HOb := zh (HOb.out.step hk jg);refine hK.out _ _ (⟨cellK (W := cw) (fp := []) (Keeps.refl [] _) HG.out rfl jg, ((own_cells (own_step (W := cw) (fp := []) HF.out (Keeps.refl [] _) jg)).2 5 _ rfl).1⟩) (fun hSS => ?_);clear hK hk;refine zac ?_;refine zbc ?_;refine AllReadyH.cons rfl (fun K hK => ?_) AllReadyH.nil;have HLHS1 : Hid (u2.heap.size ≤ cw.heap.size) := HZ
    go_simp
    refine hK.out _ _ (⟨cellK (W := cw) (fp := []) zg HG.out rfl jg, ((own_cells (own_step (W := cw) (fp := []) HF.out zg jg)).2 5 _ rfl).1⟩) (fun hSS => ?_);clear hK;refine zac ?_;refine jec ?_;clear hSS
    rename World => bHS1
    rintro cw ⟨hk, hr, hSS⟩;replace HP := zh (HP.out.kp hk jg);replace HG := zh (hk.at HG.out jg);replace HO := zh (HO.out.step hk jg);replace HF := zh (own_step HF.out hk jg);replace HPP := zh (hk.at HPP.out jg);replace HZ := zh (Nat.le_trans HZ.out hk.size);replace HOb := zh (HOb.out.step hk jg);have HS1 := zh hr;clear hk hr;refine jbc ?_;refine AllReadyH.cons rfl (fun K hK => ?_) AllReadyH.nil;have HY : Hid (Nd u2.heap.size 2 cw (.agg #[.int .i64 5, .string ⟨#[113]⟩, .float .f64 0, .slice (some ⟨bHS1.heap.size, 0, none⟩) 1 1, .complex .f64 0 0])) := zh ((Kd.row1 HS1.out HLHS1.out (Nd.leaf _ _ _ _ _ _ _)).mk zi);clear HS1;refine qec ?_
    rename World => ow
    rintro v cw ⟨rfl, hk⟩;replace HP := zh (HP.out.kp hk jg);replace HG := zh (hk.at HG.out jg);replace HO := zh (HO.out.step hk jg);replace HF := zh (own_step HF.out hk jg);replace HPP := zh (hk.at HPP.out jg);replace HZ := zh (Nat.le_trans HZ.out hk.size);replace HOb := zh (HOb.out.step hk jg);replace HY := zh (HY.out.step hk jg);refine hK.out _ _ (⟨cellK (W := cw) (fp := []) (Keeps.refl [] _) HG.out rfl jg, ((own_cells (own_step (W := cw) (fp := []) HF.out (Keeps.refl [] _) jg)).2 5 _ rfl).1⟩) (fun hSS => ?_);clear hK hk;refine zac ?_;refine wpAnyH_ready (rs := [11]) jh jg ?_;refine AllReadyH.cons rfl (fun K hK => ?_) AllReadyH.nil;have HLHS2 : Hid (u2.heap.size ≤ cw.heap.size) := HZ
    go_simp
    refine hK.out _ _ (⟨cellK (W := cw) (fp := []) zg HG.out rfl jg, ((own_cells (own_step (W := cw) (fp := []) HF.out zg jg)).2 5 _ rfl).1⟩) (fun hSS => ?_);clear hK;refine zac ?_;refine zfc ?_;clear hSS
    rename World => bHS2
    rintro cw ⟨hk, hr, hSS⟩;replace HP := zh (HP.out.kp hk jg);replace HG := zh (hk.at HG.out jg);replace HO := zh (HO.out.step hk jg);replace HF := zh (own_step HF.out hk jg);replace HPP := zh (hk.at HPP.out jg);replace HZ := zh (Nat.le_trans HZ.out hk.size);replace HOb := zh (HOb.out.step hk jg);replace HY := zh (HY.out.step hk jg);have HS2 := zh hr;clear hk hr;refine wpAnyH_ready (rs := [12]) jh jg ?_;refine AllReadyH.cons rfl (fun K hK => ?_) AllReadyH.nil;replace HY : Hid (Nd u2.heap.size 3 cw (.agg #[.int .i64 44, .string ⟨#[]⟩, .float .f64 0, .slice (some ⟨bHS2.heap.size, 0, none⟩) 1 1, .complex .f64 0 0])) := zh ((Kd.row1 HS2.out HLHS2.out HY.out).mk zi);clear HS2;refine jfc ?_
    rename World => ow
    rintro v cw ⟨rfl, hk⟩;replace HP := zh (HP.out.kp hk jg);replace HG := zh (hk.at HG.out jg);replace HO := zh (HO.out.step hk jg);replace HF := zh (own_step HF.out hk jg);replace HPP := zh (hk.at HPP.out jg);replace HZ := zh (Nat.le_trans HZ.out hk.size);replace HOb := zh (HOb.out.step hk jg);replace HY := zh (HY.out.step hk jg);refine hK.out _ _ (⟨cellK (W := cw) (fp := []) (Keeps.refl [] _) HG.out rfl jg, ((own_cells (own_step (W := cw) (fp := []) HF.out (Keeps.refl [] _) jg)).2 5 _ rfl).1⟩) (fun hSS => ?_);clear hK hk;refine zac ?_;refine wpAnyH_ready (rs := [13]) jh jg ?_;refine AllReadyH.cons rfl (fun K hK => ?_) AllReadyH.nil;have HLHS3 : Hid (u2.heap.size ≤ cw.heap.size) := HZ
    go_simp
    refine hK.out _ _ (⟨cellK (W := cw) (fp := []) zg HG.out rfl jg, ((own_cells (own_step (W := cw) (fp := []) HF.out zg jg)).2 5 _ rfl).1⟩) (fun hSS => ?_);clear hK;refine zac ?_;refine anyH_at (fun V => Keeps [] cw V ∧ V.heap[cw.heap.size]? = some (.cells #[.int .i64 44, .string ⟨#[]⟩, .float .f64 0, .slice (some ⟨bHS2.heap.size, 0, none⟩) 1 1, .complex .f64 0 0] 50 (0, 0)) ∧ (V.cell? ⟨G, 1, none⟩ = some (.slice (some ⟨F, 0, none⟩) 1 cp) ∧ V.cell? ⟨F, 5, none⟩ = some (.slice ba bm bc))) ⟨zg, qd, hSS⟩ ?_;clear hSS
    rename World => bHS3
    rintro cw ⟨hk, hr, hSS⟩;replace HP := zh (HP.out.kp hk jg);replace HG := zh (hk.at HG.out jg);replace HO := zh (HO.out.step hk jg);replace HF := zh (own_step HF.out hk jg);replace HPP := zh (hk.at HPP.out jg);replace HZ := zh (Nat.le_trans HZ.out hk.size);replace HOb := zh (HOb.out.step hk jg);replace HY := zh (HY.out.step hk jg);have HS3 := zh hr;clear hk hr;refine wpAnyH_ready (rs := [14]) jh jg ?_;refine AllReadyH.cons rfl (fun K hK => ?_) AllReadyH.nil;refine step_owX rfl (.tmp 120) (.tmp 126) rfl rfl rfl HOb.out HS3.out (HY.out.to (b' := F + 1) HFu.out (Nat.le_refl _)) HB3.out (Nat.lt_of_lt_of_le HFu.out HZ.out) HB2.out qg ?_;rintro vb wb fl hfl hk ⟨aaq, ccq, rfl⟩ hkx;have q0 := HGE.out; have q1 := HB1.out; have q2 := HB2.out; have q3 := HB3.out; have q4 := HB4.out; have q5 := HB5.out; have q6 := HB6.out; have q7 := HEe.out; have q8 := HFu.out;replace HP := zh (HP.out.kp hk (fun x hx => by have := hfl x hx; omega));replace HG := zh (hk.at HG.out (fun hx => by have := hfl _ hx; omega));replace HO := zh (HO.out.step hk (fun x hx => by have := hfl x hx; omega));replace HF := zh (own_step HF.out hk (fun hx => by have := hfl _ hx; omega));replace HPP := zh (hk.at HPP.out (fun hx => by have := hfl _ hx; omega));clear q0 q1 q2 q3 q4 q5 q6 q7 q8;have HKX : Hid (Kx bk F 4070 wb (.slice aaq (bm + 1) ccq)) := zh (by obtain ⟨ns, z1, z2, z3⟩ := hkx; exact ⟨ns, z1, z2, by omega⟩);clear HY HS3 HOb hkx
    refine hK.out _ _ (⟨cellK (W := wb) (fp := []) (Keeps.refl [] _) HG.out rfl jg, ((own_cells (own_step (W := wb) (fp := []) HF.out (Keeps.refl [] _) jg)).2 5 _ rfl).1⟩) (fun hSS => ?_);clear hK hk hfl;refine zac ?_;refine wpAnyH_take (i := 15) (v := ?_) rfl jh jh jh (fun c a' w' => hR3 c _ _ _ (fun h => h)) (Or.inl ⟨by rfl, ?_⟩) hSS ?_
    rotate_left
    ·intro w' hSw; (try dsimp only at hSw); go_simp; (try with_reducible rfl)
    refine jzb ?_;refine wpAnyH_take (i := 16) (v := ?_) rfl jh jh jh (fun c a' w' => hR3 c _ _ _ (fun h => h)) (Or.inl ⟨by rfl, ?_⟩) hSS ?_
    rotate_left
    ·intro w' hSw; (try dsimp only at hSw); go_simp; (try with_reducible rfl)
    refine jzb ?_;refine wpAnyH_take (i := 17) (v := ?_) rfl jh jh jh (fun c a' w' => hR3 c _ _ _ (fun h => h)) (Or.inl ⟨by rfl, ?_⟩) hSS ?_
    rotate_left
    ·intro w' hSw; (try dsimp only at hSw); go_simp; (try with_reducible rfl)
    refine jzb ?_;obtain ⟨lF, hFc⟩ := own_cells HF.out;obtain ⟨h5a, h5b⟩ := hFc 5 _ rfl;obtain ⟨curF, hcurF, hsetF⟩ := own_set HF.out;refine wpAnyH_done jh ?_ _;refine hR1 _ _ (fun K' hK' => ?_);have HQQ := zh hK';have HHF := zh hsetF;clear hR1 hR3 hSS hK' hFc hsetF
    go_simp
    refine HQQ.out _ _ ?_;clear HQQ;refine inv_at (fun V => Keeps [F] wb V ∧ V.heap[F]? = some (.cells (curF.setIfInBounds 5 (.slice aaq (bm + 1) ccq)) 61 (0, 0))) ⟨zg, (ze hcurF)⟩ ?_;rintro wg ⟨hk, hr⟩;have hFn := HHF.out _ _ hr;simp only [List.set_cons_succ, List.set_cons_zero] at hFn;have q0 := HGE.out; have q1 := HB1.out; have q2 := HB2.out; have q3 := HB3.out; have q4 := HB4.out; have q5 := HB5.out; have q6 := HB6.out; have q7 := HEe.out; have q8 := HFu.out;replace HP := zh (HP.out.kp hk qi);replace HG := zh (hk.at HG.out qi);replace HO := zh (HO.out.step hk qi);replace HPP := zh (hk.at HPP.out qi);replace HF := zh hFn
    go_wp2_with fail
    go_meet
    case rel => exact ⟨_, _, _, HP.out, HG.out, HO.out, HF.out, HPP.out, HKX.out.step hk jg⟩
  rename_i Q K a wq q0 q1 q2 q3 q4 q5 q6 q7 q8 q9 q10 q11 q12 q13 q14 q15 q16 q17 q18 q19 q20 q21 q22 q23 q24 q25 q26 q27 q28 q29 q30 q31 q32 q33 q34 q35 q36 q37 q38 q39 q40 q41 q42 q43 q44 q45 q46 q47 q48 q49 q50 q51 q52 q53 q54 q55 q56 q57 q58 q59 q60 q61 q62 q63 q64 q65 q66 q67 q68 q69 q70 q71 q72 q73 q74 q75 q76 q77 q78 q79 q80 q81 q82 q83 q84 q85 q86 q87 q88 q89 q90 q91 q92 q93 q94 q95 q96 q97 q98 q99 q100 q101 q102 q103 q104 q105 q106 q107 q108 q109 q110 q111 q112 q113 q114 q115 q116 q117 q118 q119 q120 q121 q122 q123 q124 q125 q126 q127 q128 q129 q130 q131 q132 q133 q134 q135 q136 q137 q138;refine a _ _ ?_;clear a K
  revert M w Kz1 w1 G w2 y gk wr u6 Kz Jz m e J va vc i9 n9 l9 u0 P F cp bk ek bm bc J1 ba u1 u2 wc u7 u8 u9 u10 u11 u12 u13 u14 u15 u16 u17 u18 u19 u20 u21 u22 u23 u24 u25 u28 u29 u30 u31 u32 u34 u35 u36 u37 u38 u39 u40 u42 u43 u44 u45 u46 u47 u48 u49 u50 u51 u52 u53 u54 u55 u56 u57 u58 u59 u60 u61 u62 u63 u64 u65 u66 u67 u68 u69 u70 u71 u72 u73 u74 u75 u76 u77 u78 u79 u80 u81 u82 u83 u84 u85 u86 u87 u88 u89 u90 u91 u92 u93 u94 u95 u96 u97 u98 u99 u100 u101 u102 u103 u104 u105 u106 u107 u108 u109 u110 u111 u112 u113 u114 u115 u116 u117 u118 u119 u120 u121 u122 u123 u124 u125 u126 u127 u128 u129 u130 u131 u132 u133 u134 u135 u136 u137 u138 u139 u140 u141 u142 u143 u144 u145 u146 u147 u148 u149 u150 u151 u152 u153 u26 u27 u33 u41
  exact Wrap.out hX
end Go.Proofs.YtkfillfkbhbbjaaGreatDoor
