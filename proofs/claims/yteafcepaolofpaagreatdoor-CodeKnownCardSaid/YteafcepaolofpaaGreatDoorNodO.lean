/- Texts of this claim, joined: NamF, NodO. -/
import Derived.Test.YteafcepaolofpaaGreatDoorSortL
import Derived.Test.YteafcepaolofpaaGreatDoorRegI
set_option maxRecDepth 100000
set_option maxHeartbeats 4000000
set_option linter.unusedSimpArgs false
set_option linter.unusedVariables false
set_option linter.unusedSectionVars false
section
/- call, walked where nothing comes of its kids. Made by a program (check.py, walk.py). -/
namespace Go.Proofs.YteafcepaolofpaaGreatDoor
open Go.RowKit
theorem call_0{K:CKey}(hK:CFix K){T:Nat→Prop}{ua:Option Addr}{uc:Nat}{st:NS}{w:World}(h:CK K T ua uc st w)(kd:Int)(tx:ByteArray)(fm:Nat)(na:Option Addr)(nc re im:Nat)(kids:List Node){fn:Nat}(hfn:fn=flook K.g tx)(h0:fn=0):
    Calls Tryz.prog 108 #[.pointer (some ⟨K.c,0,none⟩),.agg #[.int .i64 kd,.string tx,.float .f64 fm,.slice na kids.length nc,.complex .f64 re im]] w fun r w'=>∃T' ua' uc',r= .returned (.tuple #[])∧CK K T' ua' uc' (faultF st re im 28) w'∧CStep K T T' w w':=by
  have d5:((fn:Int)==0)=true:=by simp;omega
  have d6:(fn==0)=true:=by simp;omega
  have HC0:=Lib.hid h;have HS0:=Lib.hid (CStep.refl K T w);have HFN:=Lib.hid hfn
  clear h hfn h0
  go_enter Tryz.func108,Tryz.ntmps108
  obtain ⟨l_c,l_mf,l_ms,l_mn⟩:=HC0.out.lt
  go_upto_region 1 with fail
  refine wp_at (fun W=>Keeps [] w W∧W.heap[w.heap.size]? =some (.cells #[.int .i64 kd,.string tx,.float .f64 fm,.slice na kids.length nc,.complex .f64 re im] 58 (0,0))) ⟨(by with_reducible repeat (first|exact k0 _ _|refine kA ?_ _|refine kD ?_|refine kS ?_ (by simp)|refine kM ?_ (by simp))),(by simp only [hS,hA,hD,hM,World.size_setCell,World.size_drew,reduceIte,Option.map_some,Obj.put]<;>rfl)⟩ ?_
  rintro w1 ⟨Kw1,cw1_B⟩
  have n_c_B:K.c≠w.heap.size:=Nat.ne_of_lt l_c
  have n_B_c:w.heap.size≠K.c:=Nat.ne_of_gt l_c
  have n_mf_B:K.mf≠w.heap.size:=Nat.ne_of_lt l_mf
  have n_B_mf:w.heap.size≠K.mf:=Nat.ne_of_gt l_mf
  have n_ms_B:K.ms≠w.heap.size:=Nat.ne_of_lt l_ms
  have n_B_ms:w.heap.size≠K.ms:=Nat.ne_of_gt l_ms
  have n_mn_B:K.mn≠w.heap.size:=Nat.ne_of_lt l_mn
  have n_B_mn:w.heap.size≠K.mn:=Nat.ne_of_gt l_mn
  have o_B:w.heap.size≤w.heap.size:=Nat.le_refl _
  have off_B:Off K T (w.heap.size):=off_new HC0.out (Nat.le_refl _)
  have o0_B:K.w0.heap.size≤w.heap.size:=Nat.le_trans HC0.out.keep.size (Nat.le_refl _)
  have HCw1:=Lib.hid (HC0.out.kp0 Kw1)
  have HSw1:=Lib.hid (HS0.out.loc Kw1 (by simp))
  have Rw1_B:=Lib.hid cw1_B
  clear Kw1 cw1_B l_c l_mf l_ms l_mn HC0 HS0
  obtain ⟨l_c,xc_0,xc_1,xc_2,xc_3,xc_4,xc_5,xc_6,xc_7,xc_8,xc_9,xc_10,yc_0,yc_1,yc_2,yc_3,yc_4,yc_5,yc_6,yc_7,yc_8,yc_9,yc_10⟩:=cf11 HCw1.out.row
  obtain ⟨-,l_mf,l_ms,l_mn⟩:=HCw1.out.lt
  obtain ⟨l_B,xB_0,xB_1,xB_2,xB_3,xB_4,yB_0,yB_1,yB_2,yB_3,yB_4⟩:=cf5 Rw1_B.out
  have hlk:=HCw1.out.flook' tx (v:=(fn:Int)) (by rw [HFN.out])
  go_cut [4] (fun s4 W=>s4= .int .i64 fn∧Keeps [] w1 W)
  case first=>
    go_region
    all_goals
      go_wp2_with fail
      go_meet
      case rel=>exact ⟨rfl,(by with_reducible repeat (first|exact k0 _ _|refine kA ?_ _|refine kD ?_|refine kS ?_ (by simp)|refine kM ?_ (by simp)))⟩
  case rest=>
    obtain ⟨rfl,hk⟩:=hcut
    generalize wc=w2 at*
    have Rw2_B:=Lib.hid (hk.at Rw1_B.out (by simp))
    have HCw2:=Lib.hid (HCw1.out.kp0 hk)
    have HSw2:=Lib.hid (HSw1.out.loc hk (by simp))
    clear hk Rw1_B HCw1 HSw1 l_c xc_0 xc_1 xc_2 xc_3 xc_4 xc_5 xc_6 xc_7 xc_8 xc_9 xc_10 yc_0 yc_1 yc_2 yc_3 yc_4 yc_5 yc_6 yc_7 yc_8 yc_9 yc_10 l_B xB_0 xB_1 xB_2 xB_3 xB_4 yB_0 yB_1 yB_2 yB_3 yB_4 l_mf l_ms l_mn
    obtain ⟨l_c,l_mf,l_ms,l_mn⟩:=HCw2.out.lt
    obtain ⟨l_B,xB_0,xB_1,xB_2,xB_3,xB_4,yB_0,yB_1,yB_2,yB_3,yB_4⟩:=cf5 Rw2_B.out
    go_wp2_with fail
    clear l_c l_B xB_0 xB_1 xB_2 xB_3 xB_4 yB_0 yB_1 yB_2 yB_3 yB_4 l_mf l_ms l_mn
    refine (fault_any hK HCw2.out re im 28).mono ?_
    rintro r e3 ⟨T3,ua3,uc3,rfl,hc,hs⟩
    have off2_B:=hs.off (h_lt Rw2_B.out) off_B
    have Re3_B:=Lib.hid (hs.at Rw2_B.out off_B)
    have off_B':=off2_B
    have HCe3:=Lib.hid hc
    have HSe3:=Lib.hid (HSw2.out.trans hs)
    clear Rw2_B off_B HCw2 HSw2 hc hs
    have off_B:=off_B'
    clear off_B' off2_B
    obtain ⟨l_c,l_mf,l_ms,l_mn⟩:=HCe3.out.lt
    have l_B:=h_lt Re3_B.out
    go_wp2_with fail
    refine ret_at (v:= .tuple #[]) (fun W=>Keeps [] e3 W) (by with_reducible repeat (first|exact k0 _ _|refine kA ?_ _|refine kD ?_|refine kS ?_ (by simp)|refine kM ?_ (by simp))) (fun w4 hW=> ?_) rfl (fun w4 hW=> ?_)
    · have Kw4:Keeps [] e3 w4:=hW
      simp [results,Tryz.results108,go_sem]
    · have Kw4:Keeps [] e3 w4:=hW
      have Rw4_B:=Lib.hid (Kw4.at Re3_B.out (by simp))
      have HCw4:=Lib.hid (HCe3.out.kp0 Kw4)
      have HSw4:=Lib.hid (HSe3.out.loc Kw4 (by simp))
      clear Kw4 l_c l_B l_mf l_ms l_mn Re3_B HCe3 HSe3
      exact ⟨_,_,_,rfl,HCw4.out,HSw4.out⟩

theorem call_1{K:CKey}(hK:CFix K){T:Nat→Prop}{ua:Option Addr}{uc:Nat}{st:NS}{w:World}(h:CK K T ua uc st w)(kd:Int)(tx:ByteArray)(fm:Nat)(na:Option Addr)(nc re im:Nat)(kids:List Node){fn i:Nat}(hfn:fn=flook K.g tx)(hfi:fn=i+1)(hi:i<K.g.funcs.length)(hm:K.g.funcs[i].params.length<kids.length):
    Calls Tryz.prog 108 #[.pointer (some ⟨K.c,0,none⟩),.agg #[.int .i64 kd,.string tx,.float .f64 fm,.slice na kids.length nc,.complex .f64 re im]] w fun r w'=>∃T' ua' uc',r= .returned (.tuple #[])∧CK K T' ua' uc' (faultF st re im 31) w'∧CStep K T T' w w':=by
  have d1:(0:Int)<(fn:Int):=by omega
  have d0:decide (0<fn)=true:=by simp;omega
  have d2:(fn:Int) -1=(i:Int):=by omega
  have d3:(i:Int)<(K.g.funcs.length:Int):=by omega
  have d4:(fn:Int)≤1000000:=by have:=hK.small;omega
  have d5:((fn:Int)==0)=false:=by simp;omega
  have d6:(fn==0)=false:=by simp;omega
  have d7:¬fn=0:=by omega
  have d8:(K.g.funcs[i].params.length:Int)<(kids.length:Int):=by omega
  have HC0:=Lib.hid h;have HS0:=Lib.hid (CStep.refl K T w);have HFN:=Lib.hid hfn;have HFI:=Lib.hid hfi
  clear h hfn hfi
  go_enter Tryz.func108,Tryz.ntmps108
  obtain ⟨l_c,l_mf,l_ms,l_mn⟩:=HC0.out.lt
  go_upto_region 1 with fail
  refine wp_at (fun W=>Keeps [] w W∧W.heap[w.heap.size]? =some (.cells #[.int .i64 kd,.string tx,.float .f64 fm,.slice na kids.length nc,.complex .f64 re im] 58 (0,0))) ⟨(by with_reducible repeat (first|exact k0 _ _|refine kA ?_ _|refine kD ?_|refine kS ?_ (by simp)|refine kM ?_ (by simp))),(by simp only [hS,hA,hD,hM,World.size_setCell,World.size_drew,reduceIte,Option.map_some,Obj.put]<;>rfl)⟩ ?_
  rintro w1 ⟨Kw1,cw1_B⟩
  have n_c_B:K.c≠w.heap.size:=Nat.ne_of_lt l_c
  have n_B_c:w.heap.size≠K.c:=Nat.ne_of_gt l_c
  have n_mf_B:K.mf≠w.heap.size:=Nat.ne_of_lt l_mf
  have n_B_mf:w.heap.size≠K.mf:=Nat.ne_of_gt l_mf
  have n_ms_B:K.ms≠w.heap.size:=Nat.ne_of_lt l_ms
  have n_B_ms:w.heap.size≠K.ms:=Nat.ne_of_gt l_ms
  have n_mn_B:K.mn≠w.heap.size:=Nat.ne_of_lt l_mn
  have n_B_mn:w.heap.size≠K.mn:=Nat.ne_of_gt l_mn
  have o_B:w.heap.size≤w.heap.size:=Nat.le_refl _
  have off_B:Off K T (w.heap.size):=off_new HC0.out (Nat.le_refl _)
  have o0_B:K.w0.heap.size≤w.heap.size:=Nat.le_trans HC0.out.keep.size (Nat.le_refl _)
  have HCw1:=Lib.hid (HC0.out.kp0 Kw1)
  have HSw1:=Lib.hid (HS0.out.loc Kw1 (by simp))
  have Rw1_B:=Lib.hid cw1_B
  clear Kw1 cw1_B l_c l_mf l_ms l_mn HC0 HS0
  obtain ⟨l_c,xc_0,xc_1,xc_2,xc_3,xc_4,xc_5,xc_6,xc_7,xc_8,xc_9,xc_10,yc_0,yc_1,yc_2,yc_3,yc_4,yc_5,yc_6,yc_7,yc_8,yc_9,yc_10⟩:=cf11 HCw1.out.row
  obtain ⟨-,l_mf,l_ms,l_mn⟩:=HCw1.out.lt
  obtain ⟨l_B,xB_0,xB_1,xB_2,xB_3,xB_4,yB_0,yB_1,yB_2,yB_3,yB_4⟩:=cf5 Rw1_B.out
  have hlk:=HCw1.out.flook' tx (v:=(fn:Int)) (by rw [HFN.out])
  go_cut [4] (fun s4 W=>s4= .int .i64 fn∧Keeps [] w1 W)
  case first=>
    go_region
    all_goals
      go_wp2_with fail
      go_meet
      case rel=>exact ⟨rfl,(by with_reducible repeat (first|exact k0 _ _|refine kA ?_ _|refine kD ?_|refine kS ?_ (by simp)|refine kM ?_ (by simp)))⟩
  case rest=>
    obtain ⟨rfl,hk⟩:=hcut
    generalize wc=w2 at*
    have Rw2_B:=Lib.hid (hk.at Rw1_B.out (by simp))
    have HCw2:=Lib.hid (HCw1.out.kp0 hk)
    have HSw2:=Lib.hid (HSw1.out.loc hk (by simp))
    clear hk Rw1_B HCw1 HSw1 l_c xc_0 xc_1 xc_2 xc_3 xc_4 xc_5 xc_6 xc_7 xc_8 xc_9 xc_10 yc_0 yc_1 yc_2 yc_3 yc_4 yc_5 yc_6 yc_7 yc_8 yc_9 yc_10 l_B xB_0 xB_1 xB_2 xB_3 xB_4 yB_0 yB_1 yB_2 yB_3 yB_4 l_mf l_ms l_mn
    obtain ⟨l_c,xc_0,xc_1,xc_2,xc_3,xc_4,xc_5,xc_6,xc_7,xc_8,xc_9,xc_10,yc_0,yc_1,yc_2,yc_3,yc_4,yc_5,yc_6,yc_7,yc_8,yc_9,yc_10⟩:=cf11 HCw2.out.row
    obtain ⟨-,l_mf,l_ms,l_mn⟩:=HCw2.out.lt
    obtain ⟨l_B,xB_0,xB_1,xB_2,xB_3,xB_4,yB_0,yB_1,yB_2,yB_3,yB_4⟩:=cf5 Rw2_B.out
    obtain ⟨g,o,pa,pc,b0,b1,b2,b3,b4,hfa,-,hcp,-,-,-,-,-,-,hsp,-⟩:=CK.func hK HCw2.out hi
    have HSP:=Lib.hid hsp;have HFA:=Lib.hid hfa
    clear hsp
    rw [hfa] at xc_1
    clear hfa
    go_wp2_with fail
    clear l_c xc_0 xc_1 xc_2 xc_3 xc_4 xc_5 xc_6 xc_7 xc_8 xc_9 xc_10 yc_0 yc_1 yc_2 yc_3 yc_4 yc_5 yc_6 yc_7 yc_8 yc_9 yc_10 l_B xB_0 xB_1 xB_2 xB_3 xB_4 yB_0 yB_1 yB_2 yB_3 yB_4 l_mf l_ms l_mn
    refine (fault_any hK HCw2.out re im 31).mono ?_
    rintro r e3 ⟨T3,ua3,uc3,rfl,hc,hs⟩
    have off2_B:=hs.off (h_lt Rw2_B.out) off_B
    have Re3_B:=Lib.hid (hs.at Rw2_B.out off_B)
    have off_B':=off2_B
    have HCe3:=Lib.hid hc
    have HSe3:=Lib.hid (HSw2.out.trans hs)
    clear Rw2_B off_B HCw2 HSw2 hc hs
    have off_B:=off_B'
    clear off_B' off2_B
    obtain ⟨l_c,l_mf,l_ms,l_mn⟩:=HCe3.out.lt
    have l_B:=h_lt Re3_B.out
    go_wp2_with fail
    refine ret_at (v:= .tuple #[]) (fun W=>Keeps [] e3 W) (by with_reducible repeat (first|exact k0 _ _|refine kA ?_ _|refine kD ?_|refine kS ?_ (by simp)|refine kM ?_ (by simp))) (fun w4 hW=> ?_) rfl (fun w4 hW=> ?_)
    · have Kw4:Keeps [] e3 w4:=hW
      simp [results,Tryz.results108,go_sem]
    · have Kw4:Keeps [] e3 w4:=hW
      have Rw4_B:=Lib.hid (Kw4.at Re3_B.out (by simp))
      have HCw4:=Lib.hid (HCe3.out.kp0 Kw4)
      have HSw4:=Lib.hid (HSe3.out.loc Kw4 (by simp))
      clear Kw4 l_c l_B l_mf l_ms l_mn Re3_B HCe3 HSe3
      exact ⟨_,_,_,rfl,HCw4.out,HSw4.out⟩

end Go.Proofs.YteafcepaolofpaaGreatDoor
end
section
/- node at other kinds, walked. Made by a program (check.py, walk.py). -/
namespace Go.Proofs.YteafcepaolofpaaGreatDoor
open Go.RowKit

theorem node_o{K:CKey}(hK:CFix K){T:Nat→Prop}{ua:Option Addr}{uc:Nat}{st:NS}{w:World}(h:CK K T ua uc st w)(kd:Int)(tx:ByteArray)(fm:Nat)(na:Option Addr)(nc re im:Nat)(kids:List Node){rec:NRec}{st1 st':NS}(h4:kd≠4)(h5:kd≠5)(h19:kd≠19)(h20:kd≠20)(h11:kd≠11)(h41:kd≠41)(h32:kd≠32)(h33:kd≠33)(h34:kd≠34)(h35:kd≠35)(hkl:kids.length≤1000000)(hkd:KidsR K.w0 (fun _=>True) kids (.slice na kids.length nc))(hrec:NodeC K rec)(hpre:preF K.g st (.mk kd tx fm kids re im)=some st1)(hcf:kidsF rec kids st1=some st'):
    Calls Tryz.prog 66 #[.pointer (some ⟨K.c,0,none⟩),.agg #[.int .i64 kd,.string tx,.float .f64 fm,.slice na kids.length nc,.complex .f64 re im]] w fun r w'=>∃T' ua' uc',r= .returned (.tuple #[])∧CK K T' ua' uc' (st') w'∧CStep K T T' w w':=by
  have e19:(kd==19)=false:=beq_false_of_ne h19
  have f19:(kd !=19)=true:=by simp [h19]
  have e20:(kd==20)=false:=beq_false_of_ne h20
  have f20:(kd !=20)=true:=by simp [h20]
  have e11:(kd==11)=false:=beq_false_of_ne h11
  have f11:(kd !=11)=true:=by simp [h11]
  have e41:(kd==41)=false:=beq_false_of_ne h41
  have f41:(kd !=41)=true:=by simp [h41]
  have e32:(kd==32)=false:=beq_false_of_ne h32
  have f32:(kd !=32)=true:=by simp [h32]
  have e33:(kd==33)=false:=beq_false_of_ne h33
  have f33:(kd !=33)=true:=by simp [h33]
  have e34:(kd==34)=false:=beq_false_of_ne h34
  have f34:(kd !=34)=true:=by simp [h34]
  have e35:(kd==35)=false:=beq_false_of_ne h35
  have f35:(kd !=35)=true:=by simp [h35]
  have HKD:=Lib.hid hkd;have HREC:=Lib.hid hrec;have HCF:=Lib.hid hcf
  have HNR:Hid (NodeR K.w0 (fun _=>True) (.mk kd tx fm kids re im) (.agg #[.int .i64 kd,.string tx,.float .f64 fm,.slice na kids.length nc,.complex .f64 re im])):=Lib.hid (.mk hkd)
  clear hkd hrec hcf h19 h20 h11 h41 h32 h33 h34 h35
  have HC0:=Lib.hid h;have HS0:=Lib.hid (CStep.refl K T w)
  clear h
  go_enter Tryz.func66,Tryz.ntmps66
  obtain ⟨l_c,l_mf,l_ms,l_mn⟩:=HC0.out.lt
  go_upto_block 0 with fail
  refine wp_at (fun W=>Keeps [] w W∧W.heap[w.heap.size]? =some (.cells #[.int .i64 kd,.string tx,.float .f64 fm,.slice na kids.length nc,.complex .f64 re im] 58 (0,0))) ⟨(by with_reducible repeat (first|exact k0 _ _|refine kA ?_ _|refine kD ?_|refine kS ?_ (by simp)|refine kM ?_ (by simp))),(by simp only [hS,hA,hD,hM,World.size_setCell,World.size_drew,reduceIte,Option.map_some,Obj.put]<;>rfl)⟩ ?_
  rintro w1 ⟨Kw1,cw1_B⟩
  have n_c_B:K.c≠w.heap.size:=Nat.ne_of_lt l_c
  have n_B_c:w.heap.size≠K.c:=Nat.ne_of_gt l_c
  have n_mf_B:K.mf≠w.heap.size:=Nat.ne_of_lt l_mf
  have n_B_mf:w.heap.size≠K.mf:=Nat.ne_of_gt l_mf
  have n_ms_B:K.ms≠w.heap.size:=Nat.ne_of_lt l_ms
  have n_B_ms:w.heap.size≠K.ms:=Nat.ne_of_gt l_ms
  have n_mn_B:K.mn≠w.heap.size:=Nat.ne_of_lt l_mn
  have n_B_mn:w.heap.size≠K.mn:=Nat.ne_of_gt l_mn
  have o_B:w.heap.size≤w.heap.size:=Nat.le_refl _
  have off_B:Off K T (w.heap.size):=off_new HC0.out (Nat.le_refl _)
  have o0_B:K.w0.heap.size≤w.heap.size:=Nat.le_trans HC0.out.keep.size (Nat.le_refl _)
  have HCw1:=Lib.hid (HC0.out.kp0 Kw1)
  have HSw1:=Lib.hid (HS0.out.loc Kw1 (by simp))
  have Rw1_B:=Lib.hid cw1_B
  clear Kw1 cw1_B l_c l_mf l_ms l_mn HC0 HS0
  go_cut [] (fun W=>∃T' ua' uc',CK K T' ua' uc' st1 W∧CStep K T T' w W∧W.heap[w.heap.size]? =some (.cells #[.int .i64 kd,.string tx,.float .f64 fm,.slice na kids.length nc,.complex .f64 re im] 58 (0,0))∧Off K T' (w.heap.size))
  case first=>
    clear HKD HREC HCF
    rw [preF_mk,if_neg h4,if_neg h5] at hpre
    have e4:(kd==4)=false:=beq_false_of_ne h4
    have f4:(kd !=4)=true:=by simp [h4]
    have e5:(kd==5)=false:=beq_false_of_ne h5
    have f5:(kd !=5)=true:=by simp [h5]
    by_cases h38:kd=38
    · rw [if_pos h38] at hpre
      subst h38
      by_cases hfn:0<st.fn
      · rw [if_pos (.inl hfn)] at hpre
        obtain rfl:faultF st re im 32=st1:=by simpa using hpre
        have d0:decide (0<st.fn)=true:=by simp [hfn]
        have d1:(0:Int)<(st.fn:Int):=by omega
        clear hpre
        obtain ⟨l_c,xc_0,xc_1,xc_2,xc_3,xc_4,xc_5,xc_6,xc_7,xc_8,xc_9,xc_10,yc_0,yc_1,yc_2,yc_3,yc_4,yc_5,yc_6,yc_7,yc_8,yc_9,yc_10⟩:=cf11 HCw1.out.row
        obtain ⟨-,l_mf,l_ms,l_mn⟩:=HCw1.out.lt
        obtain ⟨l_B,xB_0,xB_1,xB_2,xB_3,xB_4,yB_0,yB_1,yB_2,yB_3,yB_4⟩:=cf5 Rw1_B.out
        go_wp2_with fail
        clear l_c xc_0 xc_1 xc_2 xc_3 xc_4 xc_5 xc_6 xc_7 xc_8 xc_9 xc_10 yc_0 yc_1 yc_2 yc_3 yc_4 yc_5 yc_6 yc_7 yc_8 yc_9 yc_10 l_B xB_0 xB_1 xB_2 xB_3 xB_4 yB_0 yB_1 yB_2 yB_3 yB_4 l_mf l_ms l_mn
        refine (fault_any hK HCw1.out re im 32).mono ?_
        rintro r e21 ⟨T21,ua21,uc21,rfl,hc,hs⟩
        have off2_B:=hs.off (h_lt Rw1_B.out) off_B
        have Re21_B:=Lib.hid (hs.at Rw1_B.out off_B)
        have off_B':=off2_B
        have HCe21:=Lib.hid hc
        have HSe21:=Lib.hid (HSw1.out.trans hs)
        clear Rw1_B off_B HCw1 HSw1 hc hs
        have off_B:=off_B'
        clear off_B' off2_B
        obtain ⟨l_c,l_mf,l_ms,l_mn⟩:=HCe21.out.lt
        have l_B:=h_lt Re21_B.out
        go_wp2_with fail
        go_meet
        case rel=>exact ⟨_,_,_,HCe21.out,HSe21.out,Re21_B.out,off_B⟩
      · have hf0:st.fn=0:=by omega
        have d0:decide (0<st.fn)=false:=by simp [hf0]
        by_cases h5:st.rule=5
        · obtain rfl:st=st1:=by simpa [h5,hf0] using hpre
          have g5:(st.rule==5)=true:=by simp [h5]
          have g5n:(st.rule !=5)=false:=by simp [h5]
          clear hpre h5
          obtain ⟨l_c,xc_0,xc_1,xc_2,xc_3,xc_4,xc_5,xc_6,xc_7,xc_8,xc_9,xc_10,yc_0,yc_1,yc_2,yc_3,yc_4,yc_5,yc_6,yc_7,yc_8,yc_9,yc_10⟩:=cf11 HCw1.out.row
          obtain ⟨-,l_mf,l_ms,l_mn⟩:=HCw1.out.lt
          have l_B:=h_lt Rw1_B.out
          go_wp2_with fail
          go_meet
          case rel=>exact ⟨_,_,_,HCw1.out,HSw1.out,Rw1_B.out,off_B⟩
        have g5:(st.rule==5)=false:=beq_false_of_ne h5
        have g5n:(st.rule !=5)=true:=by simp [h5]
        by_cases h6:st.rule=6
        · obtain rfl:st=st1:=by simpa [h6,hf0] using hpre
          have g6:(st.rule==6)=true:=by simp [h6]
          have g6n:(st.rule !=6)=false:=by simp [h6]
          clear hpre h6 h5
          obtain ⟨l_c,xc_0,xc_1,xc_2,xc_3,xc_4,xc_5,xc_6,xc_7,xc_8,xc_9,xc_10,yc_0,yc_1,yc_2,yc_3,yc_4,yc_5,yc_6,yc_7,yc_8,yc_9,yc_10⟩:=cf11 HCw1.out.row
          obtain ⟨-,l_mf,l_ms,l_mn⟩:=HCw1.out.lt
          have l_B:=h_lt Rw1_B.out
          go_wp2_with fail
          go_meet
          case rel=>exact ⟨_,_,_,HCw1.out,HSw1.out,Rw1_B.out,off_B⟩
        have g6:(st.rule==6)=false:=beq_false_of_ne h6
        have g6n:(st.rule !=6)=true:=by simp [h6]
        by_cases h7:st.rule=7
        · obtain rfl:st=st1:=by simpa [h7,hf0] using hpre
          have g7:(st.rule==7)=true:=by simp [h7]
          have g7n:(st.rule !=7)=false:=by simp [h7]
          clear hpre h7 h6 h5
          obtain ⟨l_c,xc_0,xc_1,xc_2,xc_3,xc_4,xc_5,xc_6,xc_7,xc_8,xc_9,xc_10,yc_0,yc_1,yc_2,yc_3,yc_4,yc_5,yc_6,yc_7,yc_8,yc_9,yc_10⟩:=cf11 HCw1.out.row
          obtain ⟨-,l_mf,l_ms,l_mn⟩:=HCw1.out.lt
          have l_B:=h_lt Rw1_B.out
          go_wp2_with fail
          go_meet
          case rel=>exact ⟨_,_,_,HCw1.out,HSw1.out,Rw1_B.out,off_B⟩
        have g7:(st.rule==7)=false:=beq_false_of_ne h7
        have g7n:(st.rule !=7)=true:=by simp [h7]
        rw [if_pos (.inr ⟨h5,h6,h7⟩)] at hpre
        obtain rfl:faultF st re im 32=st1:=by simpa using hpre
        clear hpre h5 h6 h7
        obtain ⟨l_c,xc_0,xc_1,xc_2,xc_3,xc_4,xc_5,xc_6,xc_7,xc_8,xc_9,xc_10,yc_0,yc_1,yc_2,yc_3,yc_4,yc_5,yc_6,yc_7,yc_8,yc_9,yc_10⟩:=cf11 HCw1.out.row
        obtain ⟨-,l_mf,l_ms,l_mn⟩:=HCw1.out.lt
        obtain ⟨l_B,xB_0,xB_1,xB_2,xB_3,xB_4,yB_0,yB_1,yB_2,yB_3,yB_4⟩:=cf5 Rw1_B.out
        go_wp2_with fail
        clear l_c xc_0 xc_1 xc_2 xc_3 xc_4 xc_5 xc_6 xc_7 xc_8 xc_9 xc_10 yc_0 yc_1 yc_2 yc_3 yc_4 yc_5 yc_6 yc_7 yc_8 yc_9 yc_10 l_B xB_0 xB_1 xB_2 xB_3 xB_4 yB_0 yB_1 yB_2 yB_3 yB_4 l_mf l_ms l_mn
        refine (fault_any hK HCw1.out re im 32).mono ?_
        rintro r e21 ⟨T21,ua21,uc21,rfl,hc,hs⟩
        have off2_B:=hs.off (h_lt Rw1_B.out) off_B
        have Re21_B:=Lib.hid (hs.at Rw1_B.out off_B)
        have off_B':=off2_B
        have HCe21:=Lib.hid hc
        have HSe21:=Lib.hid (HSw1.out.trans hs)
        clear Rw1_B off_B HCw1 HSw1 hc hs
        have off_B:=off_B'
        clear off_B' off2_B
        obtain ⟨l_c,l_mf,l_ms,l_mn⟩:=HCe21.out.lt
        have l_B:=h_lt Re21_B.out
        go_wp2_with fail
        go_meet
        case rel=>exact ⟨_,_,_,HCe21.out,HSe21.out,Re21_B.out,off_B⟩
    rw [if_neg h38] at hpre
    have e38:(kd==38)=false:=beq_false_of_ne h38
    have f38:(kd !=38)=true:=by simp [h38]
    by_cases h40:kd=40
    · rw [if_pos h40] at hpre
      subst h40
      by_cases hfn:st.fn=0
      · rw [if_pos hfn] at hpre
        obtain rfl:faultF st re im 32=st1:=by simpa using hpre
        have d0:((st.fn:Int)==0)=true:=by simp [hfn]
        have d1:(st.fn==0)=true:=by simp [hfn]
        clear hpre hfn
        obtain ⟨l_c,xc_0,xc_1,xc_2,xc_3,xc_4,xc_5,xc_6,xc_7,xc_8,xc_9,xc_10,yc_0,yc_1,yc_2,yc_3,yc_4,yc_5,yc_6,yc_7,yc_8,yc_9,yc_10⟩:=cf11 HCw1.out.row
        obtain ⟨-,l_mf,l_ms,l_mn⟩:=HCw1.out.lt
        obtain ⟨l_B,xB_0,xB_1,xB_2,xB_3,xB_4,yB_0,yB_1,yB_2,yB_3,yB_4⟩:=cf5 Rw1_B.out
        go_wp2_with fail
        clear l_c xc_0 xc_1 xc_2 xc_3 xc_4 xc_5 xc_6 xc_7 xc_8 xc_9 xc_10 yc_0 yc_1 yc_2 yc_3 yc_4 yc_5 yc_6 yc_7 yc_8 yc_9 yc_10 l_B xB_0 xB_1 xB_2 xB_3 xB_4 yB_0 yB_1 yB_2 yB_3 yB_4 l_mf l_ms l_mn
        refine (fault_any hK HCw1.out re im 32).mono ?_
        rintro r e21 ⟨T21,ua21,uc21,rfl,hc,hs⟩
        have off2_B:=hs.off (h_lt Rw1_B.out) off_B
        have Re21_B:=Lib.hid (hs.at Rw1_B.out off_B)
        have off_B':=off2_B
        have HCe21:=Lib.hid hc
        have HSe21:=Lib.hid (HSw1.out.trans hs)
        clear Rw1_B off_B HCw1 HSw1 hc hs
        have off_B:=off_B'
        clear off_B' off2_B
        obtain ⟨l_c,l_mf,l_ms,l_mn⟩:=HCe21.out.lt
        have l_B:=h_lt Re21_B.out
        go_wp2_with fail
        go_meet
        case rel=>exact ⟨_,_,_,HCe21.out,HSe21.out,Re21_B.out,off_B⟩
      · rw [if_neg hfn] at hpre
        obtain rfl:st=st1:=by simpa using hpre
        have d0:((st.fn:Int)==0)=false:=by simp;omega
        have d1:(st.fn==0)=false:=by simp [hfn]
        clear hpre
        obtain ⟨l_c,xc_0,xc_1,xc_2,xc_3,xc_4,xc_5,xc_6,xc_7,xc_8,xc_9,xc_10,yc_0,yc_1,yc_2,yc_3,yc_4,yc_5,yc_6,yc_7,yc_8,yc_9,yc_10⟩:=cf11 HCw1.out.row
        obtain ⟨-,l_mf,l_ms,l_mn⟩:=HCw1.out.lt
        have l_B:=h_lt Rw1_B.out
        go_wp2_with fail
        go_meet
        case rel=>exact ⟨_,_,_,HCw1.out,HSw1.out,Rw1_B.out,off_B⟩
    rw [if_neg h40] at hpre
    have e40:(kd==40)=false:=beq_false_of_ne h40
    have f40:(kd !=40)=true:=by simp [h40]
    by_cases h36:kd=36
    · subst h36
      rw [if_pos (.inl rfl)] at hpre
      by_cases hfn:st.loops=0
      · rw [if_pos hfn] at hpre
        obtain rfl:faultF st re im 32=st1:=by simpa using hpre
        have d0:(st.loops==0)=true:=by simp [hfn]
        clear hpre hfn
        obtain ⟨l_c,xc_0,xc_1,xc_2,xc_3,xc_4,xc_5,xc_6,xc_7,xc_8,xc_9,xc_10,yc_0,yc_1,yc_2,yc_3,yc_4,yc_5,yc_6,yc_7,yc_8,yc_9,yc_10⟩:=cf11 HCw1.out.row
        obtain ⟨-,l_mf,l_ms,l_mn⟩:=HCw1.out.lt
        obtain ⟨l_B,xB_0,xB_1,xB_2,xB_3,xB_4,yB_0,yB_1,yB_2,yB_3,yB_4⟩:=cf5 Rw1_B.out
        go_wp2_with fail
        clear l_c xc_0 xc_1 xc_2 xc_3 xc_4 xc_5 xc_6 xc_7 xc_8 xc_9 xc_10 yc_0 yc_1 yc_2 yc_3 yc_4 yc_5 yc_6 yc_7 yc_8 yc_9 yc_10 l_B xB_0 xB_1 xB_2 xB_3 xB_4 yB_0 yB_1 yB_2 yB_3 yB_4 l_mf l_ms l_mn
        refine (fault_any hK HCw1.out re im 32).mono ?_
        rintro r e21 ⟨T21,ua21,uc21,rfl,hc,hs⟩
        have off2_B:=hs.off (h_lt Rw1_B.out) off_B
        have Re21_B:=Lib.hid (hs.at Rw1_B.out off_B)
        have off_B':=off2_B
        have HCe21:=Lib.hid hc
        have HSe21:=Lib.hid (HSw1.out.trans hs)
        clear Rw1_B off_B HCw1 HSw1 hc hs
        have off_B:=off_B'
        clear off_B' off2_B
        obtain ⟨l_c,l_mf,l_ms,l_mn⟩:=HCe21.out.lt
        have l_B:=h_lt Re21_B.out
        go_wp2_with fail
        go_meet
        case rel=>exact ⟨_,_,_,HCe21.out,HSe21.out,Re21_B.out,off_B⟩
      · rw [if_neg hfn] at hpre
        obtain rfl:st=st1:=by simpa using hpre
        have d0:(st.loops==0)=false:=beq_false_of_ne hfn
        clear hpre
        obtain ⟨l_c,xc_0,xc_1,xc_2,xc_3,xc_4,xc_5,xc_6,xc_7,xc_8,xc_9,xc_10,yc_0,yc_1,yc_2,yc_3,yc_4,yc_5,yc_6,yc_7,yc_8,yc_9,yc_10⟩:=cf11 HCw1.out.row
        obtain ⟨-,l_mf,l_ms,l_mn⟩:=HCw1.out.lt
        have l_B:=h_lt Rw1_B.out
        go_wp2_with fail
        go_meet
        case rel=>exact ⟨_,_,_,HCw1.out,HSw1.out,Rw1_B.out,off_B⟩
    by_cases h37:kd=37
    · subst h37
      rw [if_pos (.inr rfl)] at hpre
      by_cases hfn:st.loops=0
      · rw [if_pos hfn] at hpre
        obtain rfl:faultF st re im 32=st1:=by simpa using hpre
        have d0:(st.loops==0)=true:=by simp [hfn]
        clear hpre hfn
        obtain ⟨l_c,xc_0,xc_1,xc_2,xc_3,xc_4,xc_5,xc_6,xc_7,xc_8,xc_9,xc_10,yc_0,yc_1,yc_2,yc_3,yc_4,yc_5,yc_6,yc_7,yc_8,yc_9,yc_10⟩:=cf11 HCw1.out.row
        obtain ⟨-,l_mf,l_ms,l_mn⟩:=HCw1.out.lt
        obtain ⟨l_B,xB_0,xB_1,xB_2,xB_3,xB_4,yB_0,yB_1,yB_2,yB_3,yB_4⟩:=cf5 Rw1_B.out
        go_wp2_with fail
        clear l_c xc_0 xc_1 xc_2 xc_3 xc_4 xc_5 xc_6 xc_7 xc_8 xc_9 xc_10 yc_0 yc_1 yc_2 yc_3 yc_4 yc_5 yc_6 yc_7 yc_8 yc_9 yc_10 l_B xB_0 xB_1 xB_2 xB_3 xB_4 yB_0 yB_1 yB_2 yB_3 yB_4 l_mf l_ms l_mn
        refine (fault_any hK HCw1.out re im 32).mono ?_
        rintro r e21 ⟨T21,ua21,uc21,rfl,hc,hs⟩
        have off2_B:=hs.off (h_lt Rw1_B.out) off_B
        have Re21_B:=Lib.hid (hs.at Rw1_B.out off_B)
        have off_B':=off2_B
        have HCe21:=Lib.hid hc
        have HSe21:=Lib.hid (HSw1.out.trans hs)
        clear Rw1_B off_B HCw1 HSw1 hc hs
        have off_B:=off_B'
        clear off_B' off2_B
        obtain ⟨l_c,l_mf,l_ms,l_mn⟩:=HCe21.out.lt
        have l_B:=h_lt Re21_B.out
        go_wp2_with fail
        go_meet
        case rel=>exact ⟨_,_,_,HCe21.out,HSe21.out,Re21_B.out,off_B⟩
      · rw [if_neg hfn] at hpre
        obtain rfl:st=st1:=by simpa using hpre
        have d0:(st.loops==0)=false:=beq_false_of_ne hfn
        clear hpre
        obtain ⟨l_c,xc_0,xc_1,xc_2,xc_3,xc_4,xc_5,xc_6,xc_7,xc_8,xc_9,xc_10,yc_0,yc_1,yc_2,yc_3,yc_4,yc_5,yc_6,yc_7,yc_8,yc_9,yc_10⟩:=cf11 HCw1.out.row
        obtain ⟨-,l_mf,l_ms,l_mn⟩:=HCw1.out.lt
        have l_B:=h_lt Rw1_B.out
        go_wp2_with fail
        go_meet
        case rel=>exact ⟨_,_,_,HCw1.out,HSw1.out,Rw1_B.out,off_B⟩
    rw [if_neg (by simp [h36,h37])] at hpre
    obtain rfl:st=st1:=by simpa using hpre
    clear hpre
    have e36:(kd==36)=false:=beq_false_of_ne h36
    have f36:(kd !=36)=true:=by simp [h36]
    have e37:(kd==37)=false:=beq_false_of_ne h37
    have f37:(kd !=37)=true:=by simp [h37]
    obtain ⟨l_c,xc_0,xc_1,xc_2,xc_3,xc_4,xc_5,xc_6,xc_7,xc_8,xc_9,xc_10,yc_0,yc_1,yc_2,yc_3,yc_4,yc_5,yc_6,yc_7,yc_8,yc_9,yc_10⟩:=cf11 HCw1.out.row
    obtain ⟨-,l_mf,l_ms,l_mn⟩:=HCw1.out.lt
    have l_B:=h_lt Rw1_B.out
    go_wp2_with fail
    go_meet
    case rel=>exact ⟨_,_,_,HCw1.out,HSw1.out,Rw1_B.out,off_B⟩
  case rest =>
    obtain ⟨T1,ua1,uc1,hc,hs,hB,off_B⟩:=hcut
    generalize wc=wl at*
    have HCl:=Lib.hid hc;have HSl:=Lib.hid hs;have RBl:=Lib.hid hB
    clear hc hs hB hpre HNR HCw1 HSw1 Rw1_B
    obtain ⟨l_c,l_mf,l_ms,l_mn⟩:=HCl.out.lt
    obtain ⟨l_B,xB_0,xB_1,xB_2,xB_3,xB_4,yB_0,yB_1,yB_2,yB_3,yB_4⟩:=cf5 RBl.out
    go_wp2_with fail
    clear l_c l_B xB_0 xB_1 xB_2 xB_3 xB_4 yB_0 yB_1 yB_2 yB_3 yB_4 l_mf l_ms l_mn
    go_loopg [144] (kids.length+1) (fun g j wr=>KidLoop K rec kids st' T w (w.heap.size) (.cells #[.int .i64 kd,.string tx,.float .f64 fm,.slice na kids.length nc,.complex .f64 re im] 58 (0,0)) g j wr)
    case atStart=>exact ⟨0,rfl,Nat.zero_le _,rfl,_,_,_,_,HCF.out,HCl.out,HSl.out,RBl.out,off_B⟩
    case round=>
      obtain ⟨k,rfl,hk1,hk2,st2,T2,ua2,uc2,hcf,hc,hs,hB,off_B⟩:=hrel
      have HCr:=Lib.hid hc;have HSr:=Lib.hid hs;have RB:=Lib.hid hB
      clear hc hs hB
      by_cases hlt:k<kids.length
      · obtain ⟨g3,o3,fm3,na3,nc3,hna,kc0,kc1,kc2,kc3,kc4,hkn⟩:=CK.kid HCr.out HKD.out hlt
        subst hna
        have lg3:g3<wr.heap.size:=lt_cell kc0
        rw [List.drop_eq_getElem_cons hlt,kidsF] at hcf
        generalize kids[k]=kk at*
        simp only [Option.bind_eq_bind,Option.bind_eq_some_iff] at hcf
        obtain ⟨s3,hr,hcf⟩:=hcf
        cases gk with
        |zero=>omega
        | succ f=>
          obtain ⟨l_c,l_mf,l_ms,l_mn⟩:=HCr.out.lt
          obtain ⟨l_B,xB_0,xB_1,xB_2,xB_3,xB_4,yB_0,yB_1,yB_2,yB_3,yB_4⟩:=cf5 RB.out
          go_wp2_with fail
          refine calls_at (fun W=>Keeps [] wr W∧W.heap[wr.heap.size]? =some (.cells #[.int .i64 kk.kind,.string kk.name,.float .f64 fm3,.slice na3 kk.kids.length nc3,.complex .f64 kk.re kk.im] 58 (0,0))) ⟨(by with_reducible repeat (first|exact k0 _ _|refine kA ?_ _|refine kD ?_|refine kS ?_ (by simp)|refine kM ?_ (by simp))),(by simp only [hS,hA,hD,hM,World.size_setCell,World.size_drew,reduceIte,Option.map_some,Obj.put]<;>rfl)⟩ ?_
          rintro w51 ⟨Kw51,cw51_Kd⟩
          have n_c_Kd:K.c≠wr.heap.size:=Nat.ne_of_lt l_c
          have n_Kd_c:wr.heap.size≠K.c:=Nat.ne_of_gt l_c
          have n_mf_Kd:K.mf≠wr.heap.size:=Nat.ne_of_lt l_mf
          have n_Kd_mf:wr.heap.size≠K.mf:=Nat.ne_of_gt l_mf
          have n_ms_Kd:K.ms≠wr.heap.size:=Nat.ne_of_lt l_ms
          have n_Kd_ms:wr.heap.size≠K.ms:=Nat.ne_of_gt l_ms
          have n_mn_Kd:K.mn≠wr.heap.size:=Nat.ne_of_lt l_mn
          have n_Kd_mn:wr.heap.size≠K.mn:=Nat.ne_of_gt l_mn
          have n_B_Kd:w.heap.size≠wr.heap.size:=Nat.ne_of_lt l_B
          have n_Kd_B:wr.heap.size≠w.heap.size:=Nat.ne_of_gt l_B
          have o_Kd:w.heap.size≤wr.heap.size:=HSr.out.size
          have off_Kd:Off K T2 (wr.heap.size):=off_new HCr.out (Nat.le_refl _)
          have o0_Kd:K.w0.heap.size≤wr.heap.size:=Nat.le_trans HCr.out.keep.size (Nat.le_refl _)
          have Rw51_B:=Lib.hid (Kw51.at RB.out (by simp))
          have HCw51:=Lib.hid (HCr.out.kp0 Kw51)
          have HSw51:=Lib.hid (HSr.out.loc Kw51 (by simp))
          have Rw51_Kd:=Lib.hid cw51_Kd
          clear Kw51 cw51_Kd l_c l_B xB_0 xB_1 xB_2 xB_3 xB_4 yB_0 yB_1 yB_2 yB_3 yB_4 l_mf l_ms l_mn RB HCr HSr
          refine (HREC.out _ _ _ _ hr hkn _ _ _ _ HCw51.out).mono ?_
          rintro r e52 ⟨T52,ua52,uc52,rfl,hc,hs⟩
          have off2_B:=hs.off (h_lt Rw51_B.out) off_B
          have Re52_B:=Lib.hid (hs.at Rw51_B.out off_B)
          have off2_Kd:=hs.off (h_lt Rw51_Kd.out) off_Kd
          have Re52_Kd:=Lib.hid (hs.at Rw51_Kd.out off_Kd)
          have off_B':=off2_B
          have off_Kd':=off2_Kd
          have HCe52:=Lib.hid hc
          have HSe52:=Lib.hid (HSw51.out.trans hs)
          clear Rw51_B off_B Rw51_Kd off_Kd HCw51 HSw51 hc hs
          have off_B:=off_B'
          clear off_B' off2_B
          have off_Kd:=off_Kd'
          clear off_Kd' off2_Kd
          obtain ⟨l_c,l_mf,l_ms,l_mn⟩:=HCe52.out.lt
          have l_B:=h_lt Re52_B.out
          have l_Kd:=h_lt Re52_Kd.out
          go_wp2_with fail
          go_roundg f
          case measure=>omega
          case rel=>
            exact ⟨k+1,by first|rfl|(simp;done)|(simp;omega),by omega,by omega,_,_,_,_,hcf,HCe52.out,HSe52.out,Re52_B.out,off_B⟩
      · have hke:k=kids.length:=by omega
        subst hke
        rw [List.drop_length,kidsF] at hcf
        obtain rfl:st2=st':=by simpa using hcf
        clear hcf
        obtain ⟨l_c,l_mf,l_ms,l_mn⟩:=HCr.out.lt
        have l_B:=h_lt RB.out
        go_wp2_with fail
        refine end_at (v:= .tuple #[]) (fun W=>Keeps [] wr W) (by with_reducible repeat (first|exact k0 _ _|refine kA ?_ _|refine kD ?_|refine kS ?_ (by simp)|refine kM ?_ (by simp))) (fun w51 hW=> ?_) rfl (fun w51 hW=> ?_)
        · have Kw51:Keeps [] wr w51:=hW
          simp [results,Tryz.results66,go_sem]
        · have Kw51:Keeps [] wr w51:=hW
          have Rw51_B:=Lib.hid (Kw51.at RB.out (by simp))
          have HCw51:=Lib.hid (HCr.out.kp0 Kw51)
          have HSw51:=Lib.hid (HSr.out.loc Kw51 (by simp))
          clear Kw51 l_c l_B l_mf l_ms l_mn RB HCr HSr
          exact ⟨_,_,_,rfl,HCw51.out,HSw51.out⟩
end Go.Proofs.YteafcepaolofpaaGreatDoor
end
