/- MkT. -/
import Derived.Test.YtkfillfkbhbbjaaGreatDoorMkS
set_option maxRecDepth 100000
set_option maxHeartbeats 4000000
set_option linter.unusedSimpArgs false
set_option linter.unusedVariables false
namespace Go.Proofs.YtkfillfkbhbbjaaGreatDoor
open Go.RowKit
attribute [local go_sem] Lu
set_option maxHeartbeats 40000000 in
def Se:{X:Prop//Tf X→Sf.1}:=by
 apply Subtype.mk
 ·intro hX;unfold Sf
  dsimp only
  intro M hM w hw0 HW HKE Kz1 w1 G HGE w2 y gk wr u6 u26 u27 u33 u41 Jz Kz m e J hJ HEe0 HE3 va vc him hig i9 n9 l9 u0 HP HG HO HEe HZ lb0 wc u7 u8 u9 u10 u11 u12 u13 u14 u15 u16 u17 u18 u19 u20 u21 u22 u23 u24 u25 u28 u29 u30 u31 u32 u34 u35 u36 u37 u38 u39 u40 u42 u43 u44 u45 u46 u47 u48 u49 u50 u51 u52 u53 u54 u55 u56 u57 u58 u59 u60 u61 u62 u63 u64 u65 u66 u67 u68 u69 u70 u71 u72 u73 u74 u75 u76 u77 u78 u79 u80 u81 u82 u83 u84 u85 u86 u87 u88 u89 u90 u91 u92 u93 u94 u95 u96 u97 u98 u99 u100 u101 u102 u103 u104 u107 u109 u110 u111 u112 u113 u114 u115 u116 u117 u118 u119 u120 u121 u122 u123 u124 u125 u126 u127 u128 u129 u130 u131 u132 u133 u134 u135 u136 u137 u138 u139 u140 u141 u142 u143 u144 u145 u146 u147 u148 u149 u150 u151 u152 u153 hcut;obtain ⟨P,F,cp,bk,ek,bm,bc,J1,ba,hJ1,hP,cG,hO,hF,cP,hob,hbm,b1,b2,b3,b4,b5,b6⟩:=hcut;generalize wc=u1 at*
  clear HP HG HO;have HP:=zh hP;have HG:=zh cG;have HO:=zh hO;have HF:=zh hF;have HPP:=zh cP;have HOb:=zh hob;have HB1:=zh b1;have HB2:=zh b2;have HB3:=zh b3;have HB4:=zh b4;have HB5:=zh b5;have HB6:=zh b6;clear hP cG hO hF cP hob b1 b2 b3 b4 b5 b6 HZ
  go_upto_region 22 with fail
  go_cut [94] (fun s W=>∃bb:Bool,s= .bool bb∧Ac [] u1 W)
  case first=>
   go_wp2_with fail
   go_region
   all_goals
    go_wp2_with fail
    go_meet
    case rel=>exact ⟨_,rfl,jg⟩
  obtain ⟨bb,rfl,hk⟩:=hcut;generalize wc=u2 at*
  replace HP:=zh (HP.1.kp hk qg);replace HG:=zh (hk.at HG.1 qg);replace HO:=zh (HO.1.step hk qg);replace HF:=zh (Aj HF.1 hk qg);replace HPP:=zh (hk.at HPP.1 qg);replace HOb:=zh (HOb.1.step hk qg);have HZ:Hd (u2.heap.size≤u2.heap.size):=zh (Nat.le_refl _);have HFu:Hd (F<u2.heap.size):=zh (Bf HF.1).1;clear hk
  go_upto_if 94 with fail
  go_cut [] (fun W=>FnB M w G F cp P bk J1 e m (.slice va m vc) W)
  case first=>
   cases bb with
   | true=>
    go_wp2_with fail
    refine Ck (n:=17) (S:=fun V=>(V.cell? ⟨G,1,none⟩=some (.slice (some ⟨F,0,none⟩) 1 cp)∧V.cell? ⟨F,5,none⟩=some (.slice ba bm bc))) (st:=47) (p:= .tmp 111) (v:= .tmp 108) qh qh qh rfl (⟨Bg (W:=u2) (fp:= []) jw HG.1 rfl qg,((Bf (Aj (W:=u2) (fp:= []) HF.1 jw qg)).2 5 _ rfl).1⟩) ?_;intro Rq hR1 hR3 hSS;refine WC ?_;refine zhd ?_;clear hSS;rintro cw ⟨hk,hSS⟩;replace HP:=zh (HP.1.kp hk qg);replace HG:=zh (hk.at HG.1 qg);replace HO:=zh (HO.1.step hk qg);replace HF:=zh (Aj HF.1 hk qg);replace HPP:=zh (hk.at HPP.1 qg);replace HZ:=zh (Nat.le_trans HZ.1 hk.size);replace HOb:=zh (HOb.1.step hk qg);clear hk;refine VX ?_;refine Ej ?_;refine WB ?_;refine Ej ?_;refine YT ?_;refine Ej ?_;refine WK ?_;refine Ej ?_;refine ZA ?_;refine Ej ?_;refine VW ?_;refine Ej ?_;refine qlc ?_;refine Ej ?_;have mk0:=True.intro;refine wpAnyH_ready (rs:= [6,12]) qh qg ?_;refine AllReadyH.cons rfl (fun K hK=> ?_) (AllReadyH.cons rfl (fun K hK=> ?_) AllReadyH.nil);refine jhd ?_
    rename World=>ow
    rintro v cw ⟨rfl,hk⟩;replace HP:=zh (HP.1.kp hk qg);replace HG:=zh (hk.at HG.1 qg);replace HO:=zh (HO.1.step hk qg);replace HF:=zh (Aj HF.1 hk qg);replace HPP:=zh (hk.at HPP.1 qg);replace HZ:=zh (Nat.le_trans HZ.1 hk.size);replace HOb:=zh (HOb.1.step hk qg);refine hK.out _ _ (⟨Bg (W:=cw) (fp:= []) (Ac.refl [] _) HG.1 rfl qg,((Bf (Aj (W:=cw) (fp:= []) HF.1 (Ac.refl [] _) qg)).2 5 _ rfl).1⟩) (fun hSS=> ?_);clear hK hk;refine Gv ?_;clear mk0;have mk1:=True.intro;refine wpAnyH_ready (rs:= [7,12]) qh qg ?_;refine AllReadyH.cons rfl (fun K hK=> ?_) (AllReadyH.cons rfl (fun K hK=> ?_) AllReadyH.nil);have HLHS1:Hd (u2.heap.size≤cw.heap.size):=HZ
    go_simp
    refine hK.out _ _ (⟨Bg (W:=cw) (fp:= []) jg HG.1 rfl qg,((Bf (Aj (W:=cw) (fp:= []) HF.1 jg qg)).2 5 _ rfl).1⟩) (fun hSS=> ?_);clear hK;refine Gv ?_;refine qhd ?_;clear hSS
    rename World=>bHS1
    rintro cw ⟨hk,hr,hSS⟩;replace HP:=zh (HP.1.kp hk qg);replace HG:=zh (hk.at HG.1 qg);replace HO:=zh (HO.1.step hk qg);replace HF:=zh (Aj HF.1 hk qg);replace HPP:=zh (hk.at HPP.1 qg);replace HZ:=zh (Nat.le_trans HZ.1 hk.size);replace HOb:=zh (HOb.1.step hk qg);have HS1:=zh hr;clear hk hr;clear mk1;have mk2:=True.intro;refine wpAnyH_ready (rs:= [8,12]) qh qg ?_;refine AllReadyH.cons rfl (fun K hK=> ?_) (AllReadyH.cons rfl (fun K hK=> ?_) AllReadyH.nil);have HY:Hd (Nd u2.heap.size 2 cw (.agg #[.int .i64 5,.string ⟨#[113]⟩,.float .f64 0,.slice (some ⟨bHS1.heap.size,0,none⟩) 1 1,.complex .f64 0 0])):=zh ((Kd.row1 HS1.1 HLHS1.1 (Nd.leaf _ _ _ _ _ _ _)).mk zi);clear HS1;refine zid ?_
    rename World=>ow
    rintro v cw ⟨rfl,hk⟩;replace HP:=zh (HP.1.kp hk qg);replace HG:=zh (hk.at HG.1 qg);replace HO:=zh (HO.1.step hk qg);replace HF:=zh (Aj HF.1 hk qg);replace HPP:=zh (hk.at HPP.1 qg);replace HZ:=zh (Nat.le_trans HZ.1 hk.size);replace HOb:=zh (HOb.1.step hk qg);replace HY:=zh (HY.1.step hk qg);refine hK.out _ _ (⟨Bg (W:=cw) (fp:= []) (Ac.refl [] _) HG.1 rfl qg,((Bf (Aj (W:=cw) (fp:= []) HF.1 (Ac.refl [] _) qg)).2 5 _ rfl).1⟩) (fun hSS=> ?_);clear hK hk;refine Gv ?_;clear mk2;have mk3:=True.intro;refine wpAnyH_ready (rs:= [9,12]) qh qg ?_;refine AllReadyH.cons rfl (fun K hK=> ?_) (AllReadyH.cons rfl (fun K hK=> ?_) AllReadyH.nil);have HLHS2:Hd (u2.heap.size≤cw.heap.size):=HZ
    go_simp
    refine hK.out _ _ (⟨Bg (W:=cw) (fp:= []) jg HG.1 rfl qg,((Bf (Aj (W:=cw) (fp:= []) HF.1 jg qg)).2 5 _ rfl).1⟩) (fun hSS=> ?_);clear hK;refine Gv ?_;refine jid ?_;clear hSS
    rename World=>bHS2
    rintro cw ⟨hk,hr,hSS⟩;replace HP:=zh (HP.1.kp hk qg);replace HG:=zh (hk.at HG.1 qg);replace HO:=zh (HO.1.step hk qg);replace HF:=zh (Aj HF.1 hk qg);replace HPP:=zh (hk.at HPP.1 qg);replace HZ:=zh (Nat.le_trans HZ.1 hk.size);replace HOb:=zh (HOb.1.step hk qg);replace HY:=zh (HY.1.step hk qg);have HS2:=zh hr;clear hk hr;clear mk3;have mk4:=True.intro;refine wpAnyH_ready (rs:= [10,12]) qh qg ?_;refine AllReadyH.cons rfl (fun K hK=> ?_) (AllReadyH.cons rfl (fun K hK=> ?_) AllReadyH.nil);replace HY:Hd (Nd u2.heap.size 3 cw (.agg #[.int .i64 44,.string ⟨#[]⟩,.float .f64 0,.slice (some ⟨bHS2.heap.size,0,none⟩) 1 1,.complex .f64 0 0])):=zh ((Kd.row1 HS2.1 HLHS2.1 HY.1).mk zi);clear HS2;refine qid ?_
    rename World=>ow
    rintro v cw ⟨rfl,hk⟩;replace HP:=zh (HP.1.kp hk qg);replace HG:=zh (hk.at HG.1 qg);replace HO:=zh (HO.1.step hk qg);replace HF:=zh (Aj HF.1 hk qg);replace HPP:=zh (hk.at HPP.1 qg);replace HZ:=zh (Nat.le_trans HZ.1 hk.size);replace HOb:=zh (HOb.1.step hk qg);replace HY:=zh (HY.1.step hk qg);refine hK.out _ _ (⟨Bg (W:=cw) (fp:= []) (Ac.refl [] _) HG.1 rfl qg,((Bf (Aj (W:=cw) (fp:= []) HF.1 (Ac.refl [] _) qg)).2 5 _ rfl).1⟩) (fun hSS=> ?_);clear hK hk;refine Gv ?_;clear mk4;have mk5:=True.intro;refine wpAnyH_ready (rs:= [12]) qh qg ?_;refine AllReadyH.cons rfl (fun K hK=> ?_) AllReadyH.nil
    all_goals
     have HLHS0:Hd (u2.heap.size≤cw.heap.size):=HZ
     go_simp
     refine hK.out _ _ (⟨Bg (W:=cw) (fp:= []) jg HG.1 rfl qg,((Bf (Aj (W:=cw) (fp:= []) HF.1 jg qg)).2 5 _ rfl).1⟩) (fun hSS=> ?_);clear hK;refine Gv ?_;refine Bw (fun V=>Ac [] cw V∧V.heap[cw.heap.size]? =some (.cells #[.int .i64 0,.string ⟨#[]⟩,.float .f64 0,.slice none 0 0,.complex .f64 0 0] 50 (0,0))∧(V.cell? ⟨G,1,none⟩=some (.slice (some ⟨F,0,none⟩) 1 cp)∧V.cell? ⟨F,5,none⟩=some (.slice ba bm bc))) ⟨jg,qe,hSS⟩ ?_;clear hSS
     rename World=>bHS0
     rintro cw ⟨hk,hr,hSS⟩;replace HP:=zh (HP.1.kp hk qg);replace HG:=zh (hk.at HG.1 qg);replace HO:=zh (HO.1.step hk qg);replace HF:=zh (Aj HF.1 hk qg);replace HPP:=zh (hk.at HPP.1 qg);replace HZ:=zh (Nat.le_trans HZ.1 hk.size);replace HOb:=zh (HOb.1.step hk qg);try replace HS1:=zh (hk.at HS1.1 qg)
     try replace HY:=zh (HY.1.step hk qg)
     try replace HS2:=zh (hk.at HS2.1 qg)
     have HS0:=zh hr;clear hk hr
    all_goals repeat (first
     | have mz:=mk0
       clear mz mk0;refine WL ?_;refine AllReadyH.cons rfl (fun K hK=> ?_) AllReadyH.nil;refine jhd ?_
       rename World=>ow
       rintro v cw ⟨rfl,hk⟩;replace HP:=zh (HP.1.kp hk qg);replace HG:=zh (hk.at HG.1 qg);replace HO:=zh (HO.1.step hk qg);replace HF:=zh (Aj HF.1 hk qg);replace HPP:=zh (hk.at HPP.1 qg);replace HZ:=zh (Nat.le_trans HZ.1 hk.size);replace HOb:=zh (HOb.1.step hk qg);replace HS0:=zh (hk.at HS0.1 qg);refine hK.out _ _ (⟨Bg (W:=cw) (fp:= []) (Ac.refl [] _) HG.1 rfl qg,((Bf (Aj (W:=cw) (fp:= []) HF.1 (Ac.refl [] _) qg)).2 5 _ rfl).1⟩) (fun hSS=> ?_);clear hK hk;refine Gv ?_;have mk1:=True.intro
     | have mz:=mk1
       clear mz mk1;refine XI ?_;refine AllReadyH.cons rfl (fun K hK=> ?_) AllReadyH.nil;have HLHS1:Hd (u2.heap.size≤cw.heap.size):=HZ
       go_simp
       refine hK.out _ _ (⟨Bg (W:=cw) (fp:= []) jg HG.1 rfl qg,((Bf (Aj (W:=cw) (fp:= []) HF.1 jg qg)).2 5 _ rfl).1⟩) (fun hSS=> ?_);clear hK;refine Gv ?_;refine qhd ?_;clear hSS
       rename World=>bHS1
       rintro cw ⟨hk,hr,hSS⟩;replace HP:=zh (HP.1.kp hk qg);replace HG:=zh (hk.at HG.1 qg);replace HO:=zh (HO.1.step hk qg);replace HF:=zh (Aj HF.1 hk qg);replace HPP:=zh (hk.at HPP.1 qg);replace HZ:=zh (Nat.le_trans HZ.1 hk.size);replace HOb:=zh (HOb.1.step hk qg);replace HS0:=zh (hk.at HS0.1 qg);have HS1:=zh hr;clear hk hr;have mk2:=True.intro
     | have mz:=mk2
       clear mz mk2;refine YR ?_;refine AllReadyH.cons rfl (fun K hK=> ?_) AllReadyH.nil;have HY:Hd (Nd u2.heap.size 2 cw (.agg #[.int .i64 5,.string ⟨#[113]⟩,.float .f64 0,.slice (some ⟨bHS1.heap.size,0,none⟩) 1 1,.complex .f64 0 0])):=zh ((Kd.row1 HS1.1 HLHS1.1 (Nd.leaf _ _ _ _ _ _ _)).mk zi);clear HS1;refine zid ?_
       rename World=>ow
       rintro v cw ⟨rfl,hk⟩;replace HP:=zh (HP.1.kp hk qg);replace HG:=zh (hk.at HG.1 qg);replace HO:=zh (HO.1.step hk qg);replace HF:=zh (Aj HF.1 hk qg);replace HPP:=zh (hk.at HPP.1 qg);replace HZ:=zh (Nat.le_trans HZ.1 hk.size);replace HOb:=zh (HOb.1.step hk qg);replace HS0:=zh (hk.at HS0.1 qg);replace HY:=zh (HY.1.step hk qg);refine hK.out _ _ (⟨Bg (W:=cw) (fp:= []) (Ac.refl [] _) HG.1 rfl qg,((Bf (Aj (W:=cw) (fp:= []) HF.1 (Ac.refl [] _) qg)).2 5 _ rfl).1⟩) (fun hSS=> ?_);clear hK hk;refine Gv ?_;have mk3:=True.intro
     | have mz:=mk3
       clear mz mk3;refine XG ?_;refine AllReadyH.cons rfl (fun K hK=> ?_) AllReadyH.nil;have HLHS2:Hd (u2.heap.size≤cw.heap.size):=HZ
       go_simp
       refine hK.out _ _ (⟨Bg (W:=cw) (fp:= []) jg HG.1 rfl qg,((Bf (Aj (W:=cw) (fp:= []) HF.1 jg qg)).2 5 _ rfl).1⟩) (fun hSS=> ?_);clear hK;refine Gv ?_;refine jid ?_;clear hSS
       rename World=>bHS2
       rintro cw ⟨hk,hr,hSS⟩;replace HP:=zh (HP.1.kp hk qg);replace HG:=zh (hk.at HG.1 qg);replace HO:=zh (HO.1.step hk qg);replace HF:=zh (Aj HF.1 hk qg);replace HPP:=zh (hk.at HPP.1 qg);replace HZ:=zh (Nat.le_trans HZ.1 hk.size);replace HOb:=zh (HOb.1.step hk qg);replace HS0:=zh (hk.at HS0.1 qg);replace HY:=zh (HY.1.step hk qg);have HS2:=zh hr;clear hk hr;have mk4:=True.intro
     | have mz:=mk4
       clear mz mk4;refine YP ?_;refine AllReadyH.cons rfl (fun K hK=> ?_) AllReadyH.nil;replace HY:Hd (Nd u2.heap.size 3 cw (.agg #[.int .i64 44,.string ⟨#[]⟩,.float .f64 0,.slice (some ⟨bHS2.heap.size,0,none⟩) 1 1,.complex .f64 0 0])):=zh ((Kd.row1 HS2.1 HLHS2.1 HY.1).mk zi);clear HS2;refine qid ?_
       rename World=>ow
       rintro v cw ⟨rfl,hk⟩;replace HP:=zh (HP.1.kp hk qg);replace HG:=zh (hk.at HG.1 qg);replace HO:=zh (HO.1.step hk qg);replace HF:=zh (Aj HF.1 hk qg);replace HPP:=zh (hk.at HPP.1 qg);replace HZ:=zh (Nat.le_trans HZ.1 hk.size);replace HOb:=zh (HOb.1.step hk qg);replace HS0:=zh (hk.at HS0.1 qg);replace HY:=zh (HY.1.step hk qg);refine hK.out _ _ (⟨Bg (W:=cw) (fp:= []) (Ac.refl [] _) HG.1 rfl qg,((Bf (Aj (W:=cw) (fp:= []) HF.1 (Ac.refl [] _) qg)).2 5 _ rfl).1⟩) (fun hSS=> ?_);clear hK hk;refine Gv ?_;have mk5:=True.intro)
    all_goals
     clear mk5;refine wpAnyH_ready (rs:= [13]) qh qg ?_;refine AllReadyH.cons rfl (fun K hK=> ?_) AllReadyH.nil;have HVF:Hd (u2.heap.size≤cw.heap.size):=HZ;refine NB rfl (.tmp 100) (.tmp 107) rfl rfl rfl HOb.1 HS0.1 (by have:=HB3.1;have:=HFu.1;have:=HZ.1;omega) HB2.1 jh ?_;rintro vb wb fl hfl hk ⟨ns,xx,hns1,hns2,hns3,hown⟩;obtain ⟨KK,cap',cur0,rfl,hTK,hcur0,hsz0,-⟩:=CS hns1 hown;have HOWN:=zh hown;have HTK:=zh hTK;obtain ⟨yn,hy1,hy2,hy3⟩:=HY.1.bd;have HYB:=zh (hy1.step hk (fun x hx=>by have:=hfl x hx;have:=HB3.1;have:=HFu.1;omega));have q0:=HGE.1;have q1:=HB1.1;have q2:=HB2.1;have q3:=HB3.1;have q4:=HB4.1;have q5:=HB5.1;have q6:=HB6.1;have q7:=HEe.1;have q8:=HFu.1;replace HP:=zh (HP.1.kp hk (fun x hx=>by have:=hfl x hx;omega));replace HG:=zh (hk.at HG.1 (fun hx=>by have:=hfl _ hx;omega));replace HO:=zh (HO.1.step hk (fun x hx=>by have:=hfl x hx;omega));replace HF:=zh (Aj HF.1 hk (fun hx=>by have:=hfl _ hx;omega));replace HPP:=zh (hk.at HPP.1 (fun hx=>by have:=hfl _ hx;omega));clear q0 q1 q2 q3 q4 q5 q6 q7 q8;clear HS0 HOb hown hcur0 hsz0 hTK HY hy1;refine hK.out _ _ (⟨Bg (W:=wb) (fp:= []) (Ac.refl [] _) HG.1 rfl qg,((Bf (Aj (W:=wb) (fp:= []) HF.1 (Ac.refl [] _) qg)).2 5 _ rfl).1⟩) (fun hSS=> ?_);clear hK hk hfl;refine Gv ?_;refine Mo (i:=14) (fun c a' w'=>hR3 c _ _ _ (fun h=>h)) hSS ?_
     refine Ej ?_;refine zjd ?_;refine Ej ?_;refine jnc ?_;refine Ej ?_;obtain ⟨lF,hFc⟩:=Bf HF.1;obtain ⟨h5a,h5b⟩:=hFc 5 _ rfl;obtain ⟨curF,hcurF,hsetF⟩:=IP HF.1;refine EY ?_;refine hR1 _ _ (fun K' hK'=> ?_);have HQQ:=zh hK';have HHF:=zh hsetF;clear hR1 hR3 hSS hK' hFc hsetF
     go_simp
     refine HQQ.1 _ _ ?_;clear HQQ;refine Ch (fun V=>Ac [F] wb V∧V.heap[F]? =some (.cells (curF.setIfInBounds 5 (.slice (some ⟨KK,0,none⟩) (bm+1) cap')) 61 (0,0))) ⟨jg,(jf hcurF)⟩ ?_;rintro wg ⟨hk,hr⟩;have hFn:=HHF.1 _ _ hr;simp only [List.set_cons_succ,List.set_cons_zero] at hFn;have q0:=HGE.1;have q1:=HB1.1;have q2:=HB2.1;have q3:=HB3.1;have q4:=HB4.1;have q5:=HB5.1;have q6:=HB6.1;have q7:=HEe.1;have q8:=HFu.1;replace HP:=zh (HP.1.kp hk qi);replace HG:=zh (hk.at HG.1 qi);replace HO:=zh (HO.1.step hk qi);replace HPP:=zh (hk.at HPP.1 qi);replace HF:=zh hFn;replace HOWN:=zh (HOWN.1.kp Dr hk (fun x hx hb=>by simp at hx;have:=HVF.1;omega));replace HYB:=zh (HYB.1.step hk (by simp;have:=HFu.1;omega));clear hk hr hFn hcurF h5a h5b lF HHF q0 q1 q2 q3 q4 q5 q6 q7 q8;obtain ⟨K2,cap2,cur,hv2,-,hcur,hsz,hlast⟩:=CS hns1 HOWN.1;injection hv2 with e1 e2 e3
     injection e1 with e1
     injection e1 with e1
     subst e1 e3;have HLA:=zh hlast;clear hlast e2;have lK:=Ad hcur;have s0:wg.cell? ⟨KK,bm*5,none⟩=some (cur[bm*5]'jh):=by rw [Aa hcur,Array.getElem?_eq_getElem]
     have s1:wg.cell? ⟨KK,bm*5+1,none⟩=some (cur[bm*5+1]'jh):=by rw [Aa hcur,Array.getElem?_eq_getElem]
     have s2:wg.cell? ⟨KK,bm*5+2,none⟩=some (cur[bm*5+2]'jh):=by rw [Aa hcur,Array.getElem?_eq_getElem]
     have s3:wg.cell? ⟨KK,bm*5+3,none⟩=some (cur[bm*5+3]'jh):=by rw [Aa hcur,Array.getElem?_eq_getElem]
     have s4:wg.cell? ⟨KK,bm*5+4,none⟩=some (cur[bm*5+4]'jh):=by rw [Aa hcur,Array.getElem?_eq_getElem]
     have p0:=Ab hcur (bm*5);have p1:=Ab hcur (bm*5+1);have p2:=Ab hcur (bm*5+2);have p3:=Ab hcur (bm*5+3);have p4:=Ab hcur (bm*5+4);have hbi:(bm:Int)<((bm+1:Nat):Int):=by omega
     have hbi2:(bm:Int)<(bm:Int)+1:=by omega
     go_wp2_with fail
     go_meet
     refine Ch (fun V=>Ac [KK] wg V∧V.heap[KK]? =some (.cells (((((cur.setIfInBounds (bm*5) (.int .i64 44)).setIfInBounds (bm*5+1) (.string ⟨#[]⟩)).setIfInBounds (bm*5+2) (.float .f64 0)).setIfInBounds (bm*5+3) (.slice (some ⟨bHS2.heap.size,0,none⟩) 1 1)).setIfInBounds (bm*5+4) (.complex .f64 0 0)) 50 (0,0))) ⟨jg,(jf hcur)⟩ ?_;rintro wh ⟨hk,hr⟩;have q0:=HGE.1;have q1:=HB1.1;have q2:=HB2.1;have q3:=HB3.1;have q4:=HB4.1;have q5:=HB5.1;have q6:=HB6.1;have q7:=HEe.1;have q8:=HFu.1;have q9:=HTK.1;have qa:=HVF.1;have hyB:=HYB.1.step hk qi;have hkr:=HLA.1 wh hk _ _ _ _ _ yn _ hr hyB (fun g h1 h2=>by omega);exact ⟨_,_,_,HP.1.kp hk qi,hk.at HG.1 qi,HO.1.step hk qi,Aj HF.1 hk qi,hk.at HPP.1 qi,⟨ns++ [yn],hkr.keep (Ac.refl [] wh) qg (fun x hx=>by omega),Na hns2 hy2,by rw [Jt];omega⟩⟩
   |false=>
    go_wp2_with fail
    refine Ck (n:=18) (S:=fun V=>(V.cell? ⟨G,1,none⟩=some (.slice (some ⟨F,0,none⟩) 1 cp)∧V.cell? ⟨F,5,none⟩=some (.slice ba bm bc))) (st:=47) (p:= .tmp 130) (v:= .tmp 127) qh qh qh rfl (⟨Bg (W:=u2) (fp:= []) jw HG.1 rfl qg,((Bf (Aj (W:=u2) (fp:= []) HF.1 jw qg)).2 5 _ rfl).1⟩) ?_;intro Rq hR1 hR3 hSS;refine WC ?_;refine zhd ?_;clear hSS;rintro cw ⟨hk,hSS⟩;replace HP:=zh (HP.1.kp hk qg);replace HG:=zh (hk.at HG.1 qg);replace HO:=zh (HO.1.step hk qg);replace HF:=zh (Aj HF.1 hk qg);replace HPP:=zh (hk.at HPP.1 qg);replace HZ:=zh (Nat.le_trans HZ.1 hk.size);replace HOb:=zh (HOb.1.step hk qg);clear hk;refine VX ?_;refine Ej ?_;refine WB ?_;refine Ej ?_;refine YT ?_;refine Ej ?_;refine WK ?_;refine Ej ?_;refine ZA ?_;refine Ej ?_;refine VW ?_;refine Ej ?_;refine zkc ?_;refine Ej ?_;refine YY ?_;refine Ej ?_;refine YR ?_;refine AllReadyH.cons rfl (fun K hK=> ?_) AllReadyH.nil;refine jhd ?_
    rename World=>ow
    rintro v cw ⟨rfl,hk⟩;replace HP:=zh (HP.1.kp hk qg);replace HG:=zh (hk.at HG.1 qg);replace HO:=zh (HO.1.step hk qg);replace HF:=zh (Aj HF.1 hk qg);replace HPP:=zh (hk.at HPP.1 qg);replace HZ:=zh (Nat.le_trans HZ.1 hk.size);replace HOb:=zh (HOb.1.step hk qg);refine hK.out _ _ (⟨Bg (W:=cw) (fp:= []) (Ac.refl [] _) HG.1 rfl qg,((Bf (Aj (W:=cw) (fp:= []) HF.1 (Ac.refl [] _) qg)).2 5 _ rfl).1⟩) (fun hSS=> ?_);clear hK hk;refine Gv ?_;refine XG ?_;refine AllReadyH.cons rfl (fun K hK=> ?_) AllReadyH.nil;have HLHS1:Hd (u2.heap.size≤cw.heap.size):=HZ
    go_simp
    refine hK.out _ _ (⟨Bg (W:=cw) (fp:= []) jg HG.1 rfl qg,((Bf (Aj (W:=cw) (fp:= []) HF.1 jg qg)).2 5 _ rfl).1⟩) (fun hSS=> ?_);clear hK;refine Gv ?_;refine qhd ?_;clear hSS
    rename World=>bHS1
    rintro cw ⟨hk,hr,hSS⟩;replace HP:=zh (HP.1.kp hk qg);replace HG:=zh (hk.at HG.1 qg);replace HO:=zh (HO.1.step hk qg);replace HF:=zh (Aj HF.1 hk qg);replace HPP:=zh (hk.at HPP.1 qg);replace HZ:=zh (Nat.le_trans HZ.1 hk.size);replace HOb:=zh (HOb.1.step hk qg);have HS1:=zh hr;clear hk hr;refine YP ?_;refine AllReadyH.cons rfl (fun K hK=> ?_) AllReadyH.nil;have HY:Hd (Nd u2.heap.size 2 cw (.agg #[.int .i64 5,.string ⟨#[113]⟩,.float .f64 0,.slice (some ⟨bHS1.heap.size,0,none⟩) 1 1,.complex .f64 0 0])):=zh ((Kd.row1 HS1.1 HLHS1.1 (Nd.leaf _ _ _ _ _ _ _)).mk zi);clear HS1;refine zid ?_
    rename World=>ow
    rintro v cw ⟨rfl,hk⟩;replace HP:=zh (HP.1.kp hk qg);replace HG:=zh (hk.at HG.1 qg);replace HO:=zh (HO.1.step hk qg);replace HF:=zh (Aj HF.1 hk qg);replace HPP:=zh (hk.at HPP.1 qg);replace HZ:=zh (Nat.le_trans HZ.1 hk.size);replace HOb:=zh (HOb.1.step hk qg);replace HY:=zh (HY.1.step hk qg);refine hK.out _ _ (⟨Bg (W:=cw) (fp:= []) (Ac.refl [] _) HG.1 rfl qg,((Bf (Aj (W:=cw) (fp:= []) HF.1 (Ac.refl [] _) qg)).2 5 _ rfl).1⟩) (fun hSS=> ?_);clear hK hk;refine Gv ?_;refine YU ?_;refine AllReadyH.cons rfl (fun K hK=> ?_) AllReadyH.nil;have HLHS2:Hd (u2.heap.size≤cw.heap.size):=HZ
    go_simp
    refine hK.out _ _ (⟨Bg (W:=cw) (fp:= []) jg HG.1 rfl qg,((Bf (Aj (W:=cw) (fp:= []) HF.1 jg qg)).2 5 _ rfl).1⟩) (fun hSS=> ?_);clear hK;refine Gv ?_;refine jid ?_;clear hSS
    rename World=>bHS2
    rintro cw ⟨hk,hr,hSS⟩;replace HP:=zh (HP.1.kp hk qg);replace HG:=zh (hk.at HG.1 qg);replace HO:=zh (HO.1.step hk qg);replace HF:=zh (Aj HF.1 hk qg);replace HPP:=zh (hk.at HPP.1 qg);replace HZ:=zh (Nat.le_trans HZ.1 hk.size);replace HOb:=zh (HOb.1.step hk qg);replace HY:=zh (HY.1.step hk qg);have HS2:=zh hr;clear hk hr;refine wpAnyH_ready (rs:= [12]) qh qg ?_;refine AllReadyH.cons rfl (fun K hK=> ?_) AllReadyH.nil;replace HY:Hd (Nd u2.heap.size 3 cw (.agg #[.int .i64 44,.string ⟨#[]⟩,.float .f64 0,.slice (some ⟨bHS2.heap.size,0,none⟩) 1 1,.complex .f64 0 0])):=zh ((Kd.row1 HS2.1 HLHS2.1 HY.1).mk zi);clear HS2;refine qid ?_
    rename World=>ow
    rintro v cw ⟨rfl,hk⟩;replace HP:=zh (HP.1.kp hk qg);replace HG:=zh (hk.at HG.1 qg);replace HO:=zh (HO.1.step hk qg);replace HF:=zh (Aj HF.1 hk qg);replace HPP:=zh (hk.at HPP.1 qg);replace HZ:=zh (Nat.le_trans HZ.1 hk.size);replace HOb:=zh (HOb.1.step hk qg);replace HY:=zh (HY.1.step hk qg);refine hK.out _ _ (⟨Bg (W:=cw) (fp:= []) (Ac.refl [] _) HG.1 rfl qg,((Bf (Aj (W:=cw) (fp:= []) HF.1 (Ac.refl [] _) qg)).2 5 _ rfl).1⟩) (fun hSS=> ?_);clear hK hk;refine Gv ?_;refine wpAnyH_ready (rs:= [13]) qh qg ?_;refine AllReadyH.cons rfl (fun K hK=> ?_) AllReadyH.nil;have HLHS3:Hd (u2.heap.size≤cw.heap.size):=HZ
    go_simp
    refine hK.out _ _ (⟨Bg (W:=cw) (fp:= []) jg HG.1 rfl qg,((Bf (Aj (W:=cw) (fp:= []) HF.1 jg qg)).2 5 _ rfl).1⟩) (fun hSS=> ?_);clear hK;refine Gv ?_;refine Bw (fun V=>Ac [] cw V∧V.heap[cw.heap.size]? =some (.cells #[.int .i64 44,.string ⟨#[]⟩,.float .f64 0,.slice (some ⟨bHS2.heap.size,0,none⟩) 1 1,.complex .f64 0 0] 50 (0,0))∧(V.cell? ⟨G,1,none⟩=some (.slice (some ⟨F,0,none⟩) 1 cp)∧V.cell? ⟨F,5,none⟩=some (.slice ba bm bc))) ⟨jg,qe,hSS⟩ ?_;clear hSS
    rename World=>bHS3
    rintro cw ⟨hk,hr,hSS⟩;replace HP:=zh (HP.1.kp hk qg);replace HG:=zh (hk.at HG.1 qg);replace HO:=zh (HO.1.step hk qg);replace HF:=zh (Aj HF.1 hk qg);replace HPP:=zh (hk.at HPP.1 qg);replace HZ:=zh (Nat.le_trans HZ.1 hk.size);replace HOb:=zh (HOb.1.step hk qg);replace HY:=zh (HY.1.step hk qg);have HS3:=zh hr;clear hk hr;refine wpAnyH_ready (rs:= [14]) qh qg ?_;refine AllReadyH.cons rfl (fun K hK=> ?_) AllReadyH.nil;refine NC rfl (.tmp 120) (.tmp 126) rfl rfl rfl HOb.1 HS3.1 (HY.1.to (b':=F+1) HFu.1 (Nat.le_refl _)) HB3.1 (Nat.lt_of_lt_of_le HFu.1 HZ.1) HB2.1 jh ?_;rintro vb wb fl hfl hk ⟨aaq,ccq,rfl⟩ hkx;have q0:=HGE.1;have q1:=HB1.1;have q2:=HB2.1;have q3:=HB3.1;have q4:=HB4.1;have q5:=HB5.1;have q6:=HB6.1;have q7:=HEe.1;have q8:=HFu.1;replace HP:=zh (HP.1.kp hk (fun x hx=>by have:=hfl x hx;omega));replace HG:=zh (hk.at HG.1 (fun hx=>by have:=hfl _ hx;omega));replace HO:=zh (HO.1.step hk (fun x hx=>by have:=hfl x hx;omega));replace HF:=zh (Aj HF.1 hk (fun hx=>by have:=hfl _ hx;omega));replace HPP:=zh (hk.at HPP.1 (fun hx=>by have:=hfl _ hx;omega));clear q0 q1 q2 q3 q4 q5 q6 q7 q8;have HKX:Hd (Kx bk F 4070 wb (.slice aaq (bm+1) ccq)):=zh (by obtain ⟨ns,z1,z2,z3⟩:=hkx;exact ⟨ns,z1,z2,by omega⟩);clear HY HS3 HOb hkx
    refine hK.out _ _ (⟨Bg (W:=wb) (fp:= []) (Ac.refl [] _) HG.1 rfl qg,((Bf (Aj (W:=wb) (fp:= []) HF.1 (Ac.refl [] _) qg)).2 5 _ rfl).1⟩) (fun hSS=> ?_);clear hK hk hfl;refine Gv ?_;refine zjd ?_;refine Ej ?_;refine jnc ?_;refine Ej ?_;refine Mo (i:=17) (fun c a' w'=>hR3 c _ _ _ (fun h=>h)) hSS ?_;refine Ej ?_;obtain ⟨lF,hFc⟩:=Bf HF.1;obtain ⟨h5a,h5b⟩:=hFc 5 _ rfl;obtain ⟨curF,hcurF,hsetF⟩:=IP HF.1;refine EY ?_;refine hR1 _ _ (fun K' hK'=> ?_);have HQQ:=zh hK';have HHF:=zh hsetF;clear hR1 hR3 hSS hK' hFc hsetF
    go_simp
    refine HQQ.1 _ _ ?_;clear HQQ;refine Ch (fun V=>Ac [F] wb V∧V.heap[F]? =some (.cells (curF.setIfInBounds 5 (.slice aaq (bm+1) ccq)) 61 (0,0))) ⟨jg,(jf hcurF)⟩ ?_;rintro wg ⟨hk,hr⟩;have hFn:=HHF.1 _ _ hr;simp only [List.set_cons_succ,List.set_cons_zero] at hFn;have q0:=HGE.1;have q1:=HB1.1;have q2:=HB2.1;have q3:=HB3.1;have q4:=HB4.1;have q5:=HB5.1;have q6:=HB6.1;have q7:=HEe.1;have q8:=HFu.1;replace HP:=zh (HP.1.kp hk qi);replace HG:=zh (hk.at HG.1 qi);replace HO:=zh (HO.1.step hk qi);replace HPP:=zh (hk.at HPP.1 qi);replace HF:=zh hFn
    go_wp2_with fail
    go_meet
    case rel=>exact ⟨_,_,_,HP.1,HG.1,HO.1,HF.1,HPP.1,HKX.1.step hk qg⟩
  rename_i Q K a wq q0 q1 q2 q3 q4 q5 q6 q7 q8 q9 q10 q11 q12 q13 q14 q15 q16 q17 q18 q19 q20 q21 q22 q23 q24 q25 q26 q27 q28 q29 q30 q31 q32 q33 q34 q35 q36 q37 q38 q39 q40 q41 q42 q43 q44 q45 q46 q47 q48 q49 q50 q51 q52 q53 q54 q55 q56 q57 q58 q59 q60 q61 q62 q63 q64 q65 q66 q67 q68 q69 q70 q71 q72 q73 q74 q75 q76 q77 q78 q79 q80 q81 q82 q83 q84 q85 q86 q87 q88 q89 q90 q91 q92 q93 q94 q95 q96 q97 q98 q99 q100 q101 q102 q103 q104 q105 q106 q107 q108 q109 q110 q111 q112 q113 q114 q115 q116 q117 q118 q119 q120 q121 q122 q123 q124 q125 q126 q127 q128 q129 q130 q131 q132 q133 q134 q135 q136 q137 q138;refine a _ _ ?_;clear a K
  revert M w Kz1 w1 G w2 y gk wr u6 Kz Jz m e J va vc i9 n9 l9 u0 P F cp bk ek bm bc J1 ba u1 u2 wc u7 u8 u9 u10 u11 u12 u13 u14 u15 u16 u17 u18 u19 u20 u21 u22 u23 u24 u25 u28 u29 u30 u31 u32 u34 u35 u36 u37 u38 u39 u40 u42 u43 u44 u45 u46 u47 u48 u49 u50 u51 u52 u53 u54 u55 u56 u57 u58 u59 u60 u61 u62 u63 u64 u65 u66 u67 u68 u69 u70 u71 u72 u73 u74 u75 u76 u77 u78 u79 u80 u81 u82 u83 u84 u85 u86 u87 u88 u89 u90 u91 u92 u93 u94 u95 u96 u97 u98 u99 u100 u101 u102 u103 u104 u105 u106 u107 u108 u109 u110 u111 u112 u113 u114 u115 u116 u117 u118 u119 u120 u121 u122 u123 u124 u125 u126 u127 u128 u129 u130 u131 u132 u133 u134 u135 u136 u137 u138 u139 u140 u141 u142 u143 u144 u145 u146 u147 u148 u149 u150 u151 u152 u153 u26 u27 u33 u41
  exact Tf.out hX
end Go.Proofs.YtkfillfkbhbbjaaGreatDoor
