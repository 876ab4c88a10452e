/- MkU. -/
import Derived.Test.YtkfillfkbhbbjaaGreatDoorMkT
set_option maxRecDepth 100000
set_option maxHeartbeats 4000000
set_option linter.unusedSimpArgs false
set_option linter.unusedVariables false
namespace Go.Proofs.YtkfillfkbhbbjaaGreatDoor
open Go.RowKit
attribute [local go_sem] Lu
set_option maxHeartbeats 40000000 in
theorem NZ:Se.1:=by
 unfold Se
 dsimp only
 intro M hM w hw0 HW HKE Kz1 w1 G HGE w2 y gk wr u6 u26 u27 u33 u41 Jz Kz m e J hJ HEe0 HE3 va vc him hig i9 n9 l9 u0 HEe lb0 P F cp bk ek bm bc J1 ba hJ1 hbm u1 HB1 HB2 HB3 HB4 HB5 HB6 u2 HP HG HO HF HPP HOb HZ HFu wc u7 u8 u9 u10 u11 u12 u13 u14 u15 u16 u17 u18 u19 u20 u21 u22 u23 u24 u25 u28 u29 u30 u31 u32 u34 u35 u36 u37 u38 u39 u40 u42 u43 u44 u45 u46 u47 u48 u49 u50 u51 u52 u53 u54 u55 u56 u57 u58 u59 u60 u61 u62 u63 u64 u65 u66 u67 u68 u69 u70 u71 u72 u73 u74 u75 u76 u77 u78 u79 u80 u81 u82 u83 u84 u85 u86 u87 u88 u89 u90 u91 u92 u93 u94 u95 u96 u97 u98 u99 u100 u101 u102 u103 u104 u105 u106 u107 u108 u109 u110 u111 u112 u113 u114 u115 u116 u117 u118 u119 u120 u121 u122 u123 u124 u125 u126 u127 u128 u129 u130 u131 u132 u133 u134 u135 u136 u137 u138 u139 u140 u141 u142 u143 u144 u145 u146 u147 u148 u149 u150 u151 u152 u153 hcut;obtain ⟨ka,km,kc,hP,cG,hO,hF,cP,hkx⟩:=hcut;generalize wc=u3 at*
 clear HP HG HO HF HPP HOb HZ;have HP:=zh hP;have HG:=zh cG;have HO:=zh hO;have HF:=zh hF;have HPP:=zh cP;have HKX:=zh hkx;clear hP cG hO hF cP hkx;obtain ⟨i9,n9,l9,hi9,hn9,hl91,hl92,hm9⟩:=HP.1.mak;obtain ⟨l_k,x0,x1,x2,x3,x4,y0,y1,y2,y3,y4⟩:=Bv hm9.row;have HM9:=zh hm9;clear hm9
 go_upto_region 28 with fail
 refine Bj (fun W=>Ac [M.k] u3 W∧W.heap[M.k]? =some (.cells #[.slice M.la M.ln M.lc,.int .i64 i9,.int .i64 90,.bool false,.int .i64 l9] 77 (0,0))) ⟨jg,(jf HM9.1.row)⟩ ?_;rintro u4 ⟨hk,hr⟩;replace HP:Hd (Pg M J1 false w u4):=zh (HP.1.call ⟨i9,90,l9,hi9,by omega,hl91,hl92,HM9.1.upd HP.1.fix hk (by exact_mod_cast hr)⟩ hk);replace HG:=zh (hk.at HG.1 zj);replace HO:=zh (HO.1.step hk zj);replace HF:=zh (Aj HF.1 hk jk);replace HPP:=zh (hk.at HPP.1 jk);replace HKX:=zh (HKX.1.step hk jk);have HZ:Hd (u4.heap.size≤u4.heap.size):=zh (Nat.le_refl _);have HF4:Hd (F<u4.heap.size):=zh (Bf HF.1).1;clear hk hr HM9 hi9 hn9 hl91 hl92 l_k x0 x1 x2 x3 x4 y0 y1 y2 y3 y4 HFu
 go_wp2_with fail
 refine Ck (n:=16) (S:=fun V=>V.cell? ⟨G,1,none⟩=some (.slice (some ⟨F,0,none⟩) 1 cp)) (st:=31) (p:= .tmp 152) (v:= .tmp 151) qh qh qh rfl (Bg (W:=u4) (fp:= []) (by exact kD (k0 [] u4)) HG.1 rfl qg) ?_;intro Rq hR1 hR3 hSS;refine WC ?_;refine Bw (fun V=>Ac [] u4 V∧V.cell? ⟨G,1,none⟩=some (.slice (some ⟨F,0,none⟩) 1 cp)) ⟨(by exact kD (k0 [] u4)),hSS⟩ ?_;clear hSS;rintro cw ⟨hk,hSS⟩;replace HP:=zh (HP.1.kp hk qg);replace HG:=zh (hk.at HG.1 qg);replace HO:=zh (HO.1.step hk qg);replace HF:=zh (Aj HF.1 hk qg);replace HPP:=zh (hk.at HPP.1 qg);replace HKX:=zh (HKX.1.step hk qg);replace HZ:=zh (Nat.le_trans HZ.1 hk.size);clear hk;refine VX ?_;refine Ej ?_;refine WB ?_;refine Ej ?_;refine ZA ?_;refine Ej ?_;have mk0:=True.intro;refine wpAnyH_ready (rs:= [2,3]) qh qg ?_;refine AllReadyH.cons rfl (fun K hK=> ?_) (AllReadyH.cons rfl (fun K hK=> ?_) AllReadyH.nil)
 rotate_left
 refine jjd ?_
 rename World=>ow
 rintro v cw ⟨rfl,hk⟩;replace HP:=zh (HP.1.kp hk qg);replace HG:=zh (hk.at HG.1 qg);replace HO:=zh (HO.1.step hk qg);replace HF:=zh (Aj HF.1 hk qg);replace HPP:=zh (hk.at HPP.1 qg);replace HKX:=zh (HKX.1.step hk qg);replace HZ:=zh (Nat.le_trans HZ.1 hk.size);refine hK.out _ _ (Bg (W:=cw) (fp:= []) (Ac.refl [] _) HG.1 rfl qg) (fun hSS=> ?_);clear hK hk;refine Gv ?_;clear mk0;have mk1:=True.intro;refine wpAnyH_ready (rs:= [2,5]) qh qg ?_;refine AllReadyH.cons rfl (fun K hK=> ?_) (AllReadyH.cons rfl (fun K hK=> ?_) AllReadyH.nil)
 rotate_left
 refine Bd (f:=33) (vals:= #[.pointer (some ⟨M.k,0,none⟩)]) rfl _ rfl qh (Wi HP.1.here jh) ?_
 rename World=>ow
 rintro v cw ⟨hn,hm,hk⟩;obtain ⟨k1,nm1,nu1,a1,l1,c1,re1,im1,rfl⟩:=hn.shape;have HX:Hd (Nd u4.heap.size 2 cw (.agg #[.int .i64 k1,.string nm1,.float .f64 nu1,.slice a1 l1 c1,.complex .f64 re1 im1])):=zh (hn.to HZ.1 (Nat.le_refl _));replace HP:=zh (HP.1.call hm hk);replace HG:=zh (hk.at HG.1 zj);replace HO:=zh (HO.1.step hk zj);replace HF:=zh (Aj HF.1 hk jk);replace HPP:=zh (hk.at HPP.1 jk);replace HKX:=zh (HKX.1.step hk jk);replace HZ:=zh (Nat.le_trans HZ.1 hk.size);refine hK.out _ _ (Bg (W:=cw) (fp:= []) (Ac.refl [] _) HG.1 rfl qg) (fun hSS=> ?_);clear hK hn hm hk;refine Gv ?_;clear mk1;have mk2:=True.intro;refine wpAnyH_ready (rs:= [2,6]) qh qg ?_;refine AllReadyH.cons rfl (fun K hK=> ?_) (AllReadyH.cons rfl (fun K hK=> ?_) AllReadyH.nil)
 rotate_left
 have HLHS1:Hd (u4.heap.size≤cw.heap.size):=HZ
 go_simp
 refine hK.out _ _ (Bg (W:=cw) (fp:= []) jg HG.1 rfl qg) (fun hSS=> ?_);clear hK;refine Gv ?_;refine qjd ?_;clear hSS
 rename World=>bHS1
 rintro cw ⟨hk,hr,hSS⟩;replace HP:=zh (HP.1.kp hk qg);replace HG:=zh (hk.at HG.1 qg);replace HO:=zh (HO.1.step hk qg);replace HF:=zh (Aj HF.1 hk qg);replace HPP:=zh (hk.at HPP.1 qg);replace HKX:=zh (HKX.1.step hk qg);replace HZ:=zh (Nat.le_trans HZ.1 hk.size);replace HX:=zh (HX.1.step hk qg);have HS1:=zh hr;clear hk hr;clear mk2;have mk3:=True.intro;refine wpAnyH_ready (rs:= [2,7]) qh qg ?_;refine AllReadyH.cons rfl (fun K hK=> ?_) (AllReadyH.cons rfl (fun K hK=> ?_) AllReadyH.nil)
 rotate_left
 have HI:Hd (Nd u4.heap.size 4 cw (.agg #[.int .i64 14,.string ⟨#[]⟩,.float .f64 0,.slice (some ⟨bHS1.heap.size,0,none⟩) 2 2,.complex .f64 0 0])):=zh ((Kd.row2 HS1.1 HLHS1.1 (Nd.leaf _ _ _ _ _ _ _) HX.1).mk zi);clear HS1 HX;refine zkd ?_
 rename World=>ow
 rintro v cw ⟨rfl,hk⟩;replace HP:=zh (HP.1.kp hk qg);replace HG:=zh (hk.at HG.1 qg);replace HO:=zh (HO.1.step hk qg);replace HF:=zh (Aj HF.1 hk qg);replace HPP:=zh (hk.at HPP.1 qg);replace HKX:=zh (HKX.1.step hk qg);replace HZ:=zh (Nat.le_trans HZ.1 hk.size);replace HI:=zh (HI.1.step hk qg);refine hK.out _ _ (Bg (W:=cw) (fp:= []) (Ac.refl [] _) HG.1 rfl qg) (fun hSS=> ?_);clear hK hk;refine Gv ?_;clear mk3;have mk4:=True.intro;refine wpAnyH_ready (rs:= [2,8]) qh qg ?_;refine AllReadyH.cons rfl (fun K hK=> ?_) (AllReadyH.cons rfl (fun K hK=> ?_) AllReadyH.nil)
 rotate_left
 have HLHS2:Hd (u4.heap.size≤cw.heap.size):=HZ
 go_simp
 refine hK.out _ _ (Bg (W:=cw) (fp:= []) jg HG.1 rfl qg) (fun hSS=> ?_);clear hK;refine Gv ?_;refine jkd ?_;clear hSS
 rename World=>bHS2
 rintro cw ⟨hk,hr,hSS⟩;replace HP:=zh (HP.1.kp hk qg);replace HG:=zh (hk.at HG.1 qg);replace HO:=zh (HO.1.step hk qg);replace HF:=zh (Aj HF.1 hk qg);replace HPP:=zh (hk.at HPP.1 qg);replace HKX:=zh (HKX.1.step hk qg);replace HZ:=zh (Nat.le_trans HZ.1 hk.size);replace HI:=zh (HI.1.step hk qg);have HS2:=zh hr;clear hk hr;clear mk4;have mk5:=True.intro;refine wpAnyH_ready (rs:= [2,9]) qh qg ?_;refine AllReadyH.cons rfl (fun K hK=> ?_) (AllReadyH.cons rfl (fun K hK=> ?_) AllReadyH.nil)
 rotate_left
 replace HI:Hd (Nd u4.heap.size 5 cw (.agg #[.int .i64 40,.string ⟨#[]⟩,.float .f64 0,.slice (some ⟨bHS2.heap.size,0,none⟩) 1 1,.complex .f64 0 0])):=zh ((Kd.row1 HS2.1 HLHS2.1 HI.1).mk zi);clear HS2;refine qkd ?_
 rename World=>ow
 rintro v cw ⟨rfl,hk⟩;replace HP:=zh (HP.1.kp hk qg);replace HG:=zh (hk.at HG.1 qg);replace HO:=zh (HO.1.step hk qg);replace HF:=zh (Aj HF.1 hk qg);replace HPP:=zh (hk.at HPP.1 qg);replace HKX:=zh (HKX.1.step hk qg);replace HZ:=zh (Nat.le_trans HZ.1 hk.size);replace HI:=zh (HI.1.step hk qg);refine hK.out _ _ (Bg (W:=cw) (fp:= []) (Ac.refl [] _) HG.1 rfl qg) (fun hSS=> ?_);clear hK hk;refine Gv ?_;clear mk5;have mk6:=True.intro;refine wpAnyH_ready (rs:= [2,10]) qh qg ?_;refine AllReadyH.cons rfl (fun K hK=> ?_) (AllReadyH.cons rfl (fun K hK=> ?_) AllReadyH.nil)
 rotate_left
 have HLHS3:Hd (u4.heap.size≤cw.heap.size):=HZ
 go_simp
 refine hK.out _ _ (Bg (W:=cw) (fp:= []) jg HG.1 rfl qg) (fun hSS=> ?_);clear hK;refine Gv ?_;refine zld ?_;clear hSS
 rename World=>bHS3
 rintro cw ⟨hk,hr,hSS⟩;replace HP:=zh (HP.1.kp hk qg);replace HG:=zh (hk.at HG.1 qg);replace HO:=zh (HO.1.step hk qg);replace HF:=zh (Aj HF.1 hk qg);replace HPP:=zh (hk.at HPP.1 qg);replace HKX:=zh (HKX.1.step hk qg);replace HZ:=zh (Nat.le_trans HZ.1 hk.size);replace HI:=zh (HI.1.step hk qg);have HS3:=zh hr;clear hk hr;clear mk6;have mk7:=True.intro;refine wpAnyH_ready (rs:= [2,11]) qh qg ?_;refine AllReadyH.cons rfl (fun K hK=> ?_) (AllReadyH.cons rfl (fun K hK=> ?_) AllReadyH.nil)
 rotate_left
 replace HI:Hd (Nd u4.heap.size 6 cw (.agg #[.int .i64 30,.string ⟨#[]⟩,.float .f64 0,.slice (some ⟨bHS3.heap.size,0,none⟩) 1 1,.complex .f64 0 0])):=zh ((Kd.row1 HS3.1 HLHS3.1 HI.1).mk zi);clear HS3;refine jld ?_
 rename World=>ow
 rintro v cw ⟨rfl,hk⟩;replace HP:=zh (HP.1.kp hk qg);replace HG:=zh (hk.at HG.1 qg);replace HO:=zh (HO.1.step hk qg);replace HF:=zh (Aj HF.1 hk qg);replace HPP:=zh (hk.at HPP.1 qg);replace HKX:=zh (HKX.1.step hk qg);replace HZ:=zh (Nat.le_trans HZ.1 hk.size);replace HI:=zh (HI.1.step hk qg);refine hK.out _ _ (Bg (W:=cw) (fp:= []) (Ac.refl [] _) HG.1 rfl qg) (fun hSS=> ?_);clear hK hk;refine Gv ?_;clear mk7;have mk8:=True.intro;refine wpAnyH_ready (rs:= [2]) qh qg ?_;refine AllReadyH.cons rfl (fun K hK=> ?_) AllReadyH.nil
 all_goals
  have HLHP2:Hd (u4.heap.size≤cw.heap.size):=HZ
  go_simp
  refine hK.out _ _ (Bg (W:=cw) (fp:= []) jg HG.1 rfl qg) (fun hSS=> ?_);clear hK;refine Gv ?_;refine Bw (fun V=>Ac [] cw V∧V.heap[cw.heap.size]? =some (.cells #[.string ⟨#[122]⟩] 9 (0,0))∧V.cell? ⟨G,1,none⟩=some (.slice (some ⟨F,0,none⟩) 1 cp)) ⟨jg,qe,hSS⟩ ?_;clear hSS
  rename World=>bHP2
  rintro cw ⟨hk,hr,hSS⟩;replace HP:=zh (HP.1.kp hk qg);replace HG:=zh (hk.at HG.1 qg);replace HO:=zh (HO.1.step hk qg);replace HF:=zh (Aj HF.1 hk qg);replace HPP:=zh (hk.at HPP.1 qg);replace HKX:=zh (HKX.1.step hk qg);replace HZ:=zh (Nat.le_trans HZ.1 hk.size);try replace HX:=zh (HX.1.step hk qg)
  try replace HS1:=zh (hk.at HS1.1 qg)
  try replace HI:=zh (HI.1.step hk qg)
  try replace HS2:=zh (hk.at HS2.1 qg)
  try replace HS3:=zh (hk.at HS3.1 qg)
  have HP2:=zh hr;clear hk hr
 all_goals repeat (first
  | have mz:=mk0
    clear mz mk0;refine wpAnyH_ready (rs:= [3]) qh qg ?_;refine AllReadyH.cons rfl (fun K hK=> ?_) AllReadyH.nil;refine jjd ?_
    rename World=>ow
    rintro v cw ⟨rfl,hk⟩;replace HP:=zh (HP.1.kp hk qg);replace HG:=zh (hk.at HG.1 qg);replace HO:=zh (HO.1.step hk qg);replace HF:=zh (Aj HF.1 hk qg);replace HPP:=zh (hk.at HPP.1 qg);replace HKX:=zh (HKX.1.step hk qg);replace HZ:=zh (Nat.le_trans HZ.1 hk.size);replace HP2:=zh (hk.at HP2.1 qg);refine hK.out _ _ (Bg (W:=cw) (fp:= []) (Ac.refl [] _) HG.1 rfl qg) (fun hSS=> ?_);clear hK hk;refine Gv ?_;have mk1:=True.intro
  | have mz:=mk1
    clear mz mk1;refine wpAnyH_ready (rs:= [5]) qh qg ?_;refine AllReadyH.cons rfl (fun K hK=> ?_) AllReadyH.nil;refine Bd (f:=33) (vals:= #[.pointer (some ⟨M.k,0,none⟩)]) rfl _ rfl qh (Wi HP.1.here jh) ?_
    rename World=>ow
    rintro v cw ⟨hn,hm,hk⟩;obtain ⟨k1,nm1,nu1,a1,l1,c1,re1,im1,rfl⟩:=hn.shape;have HX:Hd (Nd u4.heap.size 2 cw (.agg #[.int .i64 k1,.string nm1,.float .f64 nu1,.slice a1 l1 c1,.complex .f64 re1 im1])):=zh (hn.to HZ.1 (Nat.le_refl _));replace HP:=zh (HP.1.call hm hk);replace HG:=zh (hk.at HG.1 zj);replace HO:=zh (HO.1.step hk zj);replace HF:=zh (Aj HF.1 hk jk);replace HPP:=zh (hk.at HPP.1 jk);replace HKX:=zh (HKX.1.step hk jk);replace HZ:=zh (Nat.le_trans HZ.1 hk.size);replace HP2:=zh (hk.at HP2.1 (by have:=HLHP2.1;have:=HF4.1;have:=HKE.1;have:=HGE.1;have:=HB1.1;have:=HB2.1;have:=HB3.1;have:=HB4.1;simp;omega));refine hK.out _ _ (Bg (W:=cw) (fp:= []) (Ac.refl [] _) HG.1 rfl qg) (fun hSS=> ?_);clear hK hn hm hk;refine Gv ?_;have mk2:=True.intro
  | have mz:=mk2
    clear mz mk2;refine WL ?_;refine AllReadyH.cons rfl (fun K hK=> ?_) AllReadyH.nil;have HLHS1:Hd (u4.heap.size≤cw.heap.size):=HZ
    go_simp
    refine hK.out _ _ (Bg (W:=cw) (fp:= []) jg HG.1 rfl qg) (fun hSS=> ?_);clear hK;refine Gv ?_;refine qjd ?_;clear hSS
    rename World=>bHS1
    rintro cw ⟨hk,hr,hSS⟩;replace HP:=zh (HP.1.kp hk qg);replace HG:=zh (hk.at HG.1 qg);replace HO:=zh (HO.1.step hk qg);replace HF:=zh (Aj HF.1 hk qg);replace HPP:=zh (hk.at HPP.1 qg);replace HKX:=zh (HKX.1.step hk qg);replace HZ:=zh (Nat.le_trans HZ.1 hk.size);replace HP2:=zh (hk.at HP2.1 qg);replace HX:=zh (HX.1.step hk qg);have HS1:=zh hr;clear hk hr;have mk3:=True.intro
  | have mz:=mk3
    clear mz mk3;refine XI ?_;refine AllReadyH.cons rfl (fun K hK=> ?_) AllReadyH.nil;have HI:Hd (Nd u4.heap.size 4 cw (.agg #[.int .i64 14,.string ⟨#[]⟩,.float .f64 0,.slice (some ⟨bHS1.heap.size,0,none⟩) 2 2,.complex .f64 0 0])):=zh ((Kd.row2 HS1.1 HLHS1.1 (Nd.leaf _ _ _ _ _ _ _) HX.1).mk zi);clear HS1 HX;refine zkd ?_
    rename World=>ow
    rintro v cw ⟨rfl,hk⟩;replace HP:=zh (HP.1.kp hk qg);replace HG:=zh (hk.at HG.1 qg);replace HO:=zh (HO.1.step hk qg);replace HF:=zh (Aj HF.1 hk qg);replace HPP:=zh (hk.at HPP.1 qg);replace HKX:=zh (HKX.1.step hk qg);replace HZ:=zh (Nat.le_trans HZ.1 hk.size);replace HP2:=zh (hk.at HP2.1 qg);replace HI:=zh (HI.1.step hk qg);refine hK.out _ _ (Bg (W:=cw) (fp:= []) (Ac.refl [] _) HG.1 rfl qg) (fun hSS=> ?_);clear hK hk;refine Gv ?_;have mk4:=True.intro
  | have mz:=mk4
    clear mz mk4;refine YR ?_;refine AllReadyH.cons rfl (fun K hK=> ?_) AllReadyH.nil;have HLHS2:Hd (u4.heap.size≤cw.heap.size):=HZ
    go_simp
    refine hK.out _ _ (Bg (W:=cw) (fp:= []) jg HG.1 rfl qg) (fun hSS=> ?_);clear hK;refine Gv ?_;refine jkd ?_;clear hSS
    rename World=>bHS2
    rintro cw ⟨hk,hr,hSS⟩;replace HP:=zh (HP.1.kp hk qg);replace HG:=zh (hk.at HG.1 qg);replace HO:=zh (HO.1.step hk qg);replace HF:=zh (Aj HF.1 hk qg);replace HPP:=zh (hk.at HPP.1 qg);replace HKX:=zh (HKX.1.step hk qg);replace HZ:=zh (Nat.le_trans HZ.1 hk.size);replace HP2:=zh (hk.at HP2.1 qg);replace HI:=zh (HI.1.step hk qg);have HS2:=zh hr;clear hk hr;have mk5:=True.intro
  | have mz:=mk5
    clear mz mk5;refine XG ?_;refine AllReadyH.cons rfl (fun K hK=> ?_) AllReadyH.nil;replace HI:Hd (Nd u4.heap.size 5 cw (.agg #[.int .i64 40,.string ⟨#[]⟩,.float .f64 0,.slice (some ⟨bHS2.heap.size,0,none⟩) 1 1,.complex .f64 0 0])):=zh ((Kd.row1 HS2.1 HLHS2.1 HI.1).mk zi);clear HS2;refine qkd ?_
    rename World=>ow
    rintro v cw ⟨rfl,hk⟩;replace HP:=zh (HP.1.kp hk qg);replace HG:=zh (hk.at HG.1 qg);replace HO:=zh (HO.1.step hk qg);replace HF:=zh (Aj HF.1 hk qg);replace HPP:=zh (hk.at HPP.1 qg);replace HKX:=zh (HKX.1.step hk qg);replace HZ:=zh (Nat.le_trans HZ.1 hk.size);replace HP2:=zh (hk.at HP2.1 qg);replace HI:=zh (HI.1.step hk qg);refine hK.out _ _ (Bg (W:=cw) (fp:= []) (Ac.refl [] _) HG.1 rfl qg) (fun hSS=> ?_);clear hK hk;refine Gv ?_;have mk6:=True.intro
  | have mz:=mk6
    clear mz mk6;refine YP ?_;refine AllReadyH.cons rfl (fun K hK=> ?_) AllReadyH.nil;have HLHS3:Hd (u4.heap.size≤cw.heap.size):=HZ
    go_simp
    refine hK.out _ _ (Bg (W:=cw) (fp:= []) jg HG.1 rfl qg) (fun hSS=> ?_);clear hK;refine Gv ?_;refine zld ?_;clear hSS
    rename World=>bHS3
    rintro cw ⟨hk,hr,hSS⟩;replace HP:=zh (HP.1.kp hk qg);replace HG:=zh (hk.at HG.1 qg);replace HO:=zh (HO.1.step hk qg);replace HF:=zh (Aj HF.1 hk qg);replace HPP:=zh (hk.at HPP.1 qg);replace HKX:=zh (HKX.1.step hk qg);replace HZ:=zh (Nat.le_trans HZ.1 hk.size);replace HP2:=zh (hk.at HP2.1 qg);replace HI:=zh (HI.1.step hk qg);have HS3:=zh hr;clear hk hr;have mk7:=True.intro
  | have mz:=mk7
    clear mz mk7;refine YU ?_;refine AllReadyH.cons rfl (fun K hK=> ?_) AllReadyH.nil;replace HI:Hd (Nd u4.heap.size 6 cw (.agg #[.int .i64 30,.string ⟨#[]⟩,.float .f64 0,.slice (some ⟨bHS3.heap.size,0,none⟩) 1 1,.complex .f64 0 0])):=zh ((Kd.row1 HS3.1 HLHS3.1 HI.1).mk zi);clear HS3;refine jld ?_
    rename World=>ow
    rintro v cw ⟨rfl,hk⟩;replace HP:=zh (HP.1.kp hk qg);replace HG:=zh (hk.at HG.1 qg);replace HO:=zh (HO.1.step hk qg);replace HF:=zh (Aj HF.1 hk qg);replace HPP:=zh (hk.at HPP.1 qg);replace HKX:=zh (HKX.1.step hk qg);replace HZ:=zh (Nat.le_trans HZ.1 hk.size);replace HP2:=zh (hk.at HP2.1 qg);replace HI:=zh (HI.1.step hk qg);refine hK.out _ _ (Bg (W:=cw) (fp:= []) (Ac.refl [] _) HG.1 rfl qg) (fun hSS=> ?_);clear hK hk;refine Gv ?_;have mk8:=True.intro)
 all_goals
  clear mk8;refine qmc ?_;refine Ej ?_;refine wpAnyH_ready (rs:= [13]) qh qg ?_;refine AllReadyH.cons rfl (fun K hK=> ?_) AllReadyH.nil;have HLHFB:Hd (u4.heap.size≤cw.heap.size):=HZ
  go_simp
  refine hK.out _ _ (Bg (W:=cw) (fp:= []) jg HG.1 rfl qg) (fun hSS=> ?_);clear hK;refine Gv ?_;refine Bw (fun V=>Ac [] cw V∧V.heap[cw.heap.size]? =some (.cells #[.string ⟨#[103]⟩,.slice (some ⟨bHP2.heap.size,0,none⟩) 1 1,.int .i64 30,.string ⟨#[]⟩,.float .f64 0,.slice (some ⟨bHS3.heap.size,0,none⟩) 1 1,.complex .f64 0 0,.complex .f64 0 0] 61 (0,0))∧V.cell? ⟨G,1,none⟩=some (.slice (some ⟨F,0,none⟩) 1 cp)) ⟨jg,qe,hSS⟩ ?_;clear hSS
  rename World=>bHFB
  rintro cw ⟨hk,hr,hSS⟩;replace HP:=zh (HP.1.kp hk qg);replace HG:=zh (hk.at HG.1 qg);replace HO:=zh (HO.1.step hk qg);replace HF:=zh (Aj HF.1 hk qg);replace HPP:=zh (hk.at HPP.1 qg);replace HKX:=zh (HKX.1.step hk qg);replace HZ:=zh (Nat.le_trans HZ.1 hk.size);replace HP2:=zh (hk.at HP2.1 qg);replace HI:=zh (HI.1.step hk qg);have HFB:=zh hr;clear hk hr;refine wpAnyH_ready (rs:= [14]) qh qg ?_;refine AllReadyH.cons rfl (fun K hK=> ?_) AllReadyH.nil;have HVZ:=HZ;refine JV rfl (.tmp 138) (.tmp 150) rfl rfl rfl HF.1 HFB.1 zo (by have:=HZ.1;have:=HGE.1;have:=HB4.1;have:=HF4.1;have:=HP.1.keep.size;have:=HB1.1;have:=HB2.1;have:=HB3.1;omega) ?_;rintro gq cp2 wb hk hown hgq;have q0:=HGE.1;have q1:=HB1.1;have q2:=HB2.1;have q3:=HB3.1;have q4:=HB4.1;have q5:=HB5.1;have q7:=HEe.1;have q8:=HF4.1;replace HP:=zh (HP.1.kp hk qi);replace HG:=zh (hk.at HG.1 qi);replace HO:=zh (HO.1.step hk qi);replace HPP:=zh (hk.at HPP.1 qi);replace HP2:=zh (hk.at HP2.1 (by simp;have:=HLHP2.1;omega));replace HKX:=zh (HKX.1.step hk qg);replace HI:=zh (HI.1.step hk qi);have HF2:=zh hown;have HGQ:Hd (gq=F∨u4.heap.size≤gq):=zh (by have:=HVZ.1;omega);clear HF HFB q0 q1 q2 q3 q4 q5 q7 q8;refine hK.out _ _ (Bg (W:=wb) (fp:= []) (Ac.refl [] _) HG.1 rfl qg) (fun hSS=> ?_);clear hK hk hown hgq;refine Gv ?_;refine zjd ?_;refine Ej ?_;obtain ⟨lG,gg⟩:=Ki HG.1;refine EY ?_
  refine hR1 _ _ (fun K' hK'=> ?_);have HQQ:=zh hK';clear hR1 hR3 hSS hK'
  go_simp
  refine HQQ.1 _ _ ?_;clear HQQ;refine Ch (fun V=>Ac [G] wb V∧V.heap[G]? =some (.cells #[.slice va m vc,.slice (some ⟨gq,0,none⟩) 2 cp2] 33 (0,0))) ⟨jg,(jf HG.1)⟩ ?_;rintro wg ⟨hk,hr⟩;have q0:=HGE.1;have q1:=HB1.1;have q2:=HB2.1;have q3:=HB3.1;have q4:=HB4.1;have q5:=HB5.1;have q7:=HEe.1;have q8:=HF4.1;have q9:=HLHP2.1;have qa:=HGQ.1;replace HP:=zh (HP.1.kp hk qi);replace HO:=zh (HO.1.step hk qi);replace HPP:=zh (hk.at HPP.1 qi);replace HP2:=zh (hk.at HP2.1 qi);replace HKX:=zh (HKX.1.step hk qi);replace HI:=zh (HI.1.step hk qi);replace HF2:=zh (Yy HF2.1 hk qi);replace HG:=zh hr;clear hk hr lG gg q0 q1 q2 q3 q4 q5 q7 q8 q9 qa;obtain ⟨lG,gg⟩:=Ki HG.1;obtain ⟨lR,rr⟩:=Ki HP.1.res
  go_wp2_with fail
  refine Ap (v:= .agg #[.slice va m vc,.slice (some ⟨gq,0,none⟩) 2 cp2]) (fun U=>Ac [w.heap.size] wg U∧U.heap[w.heap.size]? =some (.cells #[.slice va m vc,.slice (some ⟨gq,0,none⟩) 2 cp2] 33 (0,0))) ⟨jg,(jf HP.1.res)⟩ (fun U hU=> ?_) rfl (fun U hU=> ?_)
  ·obtain ⟨-,x0,x1,-,-⟩:=Ki hU.2;simp [results,Jo,go_sem,x0,x1]
  have hk:=hU.1;have q0:=HGE.1;have q1:=HB1.1;have q2:=HB2.1;have q3:=HB3.1;have q4:=HB4.1;have q5:=HB5.1;have q7:=HEe.1;have q8:=HF4.1;have q9:=HLHP2.1;have qa:=HGQ.1;obtain ⟨gp,hgp,hwf⟩:=NY (ka2:=0) (HO.1.step hk qg) jh (b:=w.heap.size+3) jh (Yy HF2.1 hk qi) (hk.at HPP.1 qi) (hk.at HP2.1 qi) jh jh ((HKX.1.step hk qi).kd jh jh) ((HI.1.step hk qi).to jh jh);exact ⟨gp,_,rfl,hgp,hwf,HP.1.keep.trans hk qg⟩
theorem CN{M:Bs}(hM:Qc M){w:World}(hk:M.k=w.heap.size+1)(hw0:M.w0=w):Calls Tryz.prog 14 #[.slice M.la M.ln M.lc] w fun r w'=>∃g v,r= .returned v∧Iu w' (fun x=>w.heap.size≤x) g v∧VT g∧Ac [] w w':=
 Vr.2 (Tf.mk (Sf.2 (Tf.mk (Se.2 (Tf.mk NZ))))) M hM w hk hw0
end Go.Proofs.YtkfillfkbhbbjaaGreatDoor
