/- Texts of this claim, joined: NodL, NodV, RegI. -/
import Derived.Test.YteafcepaolofpaaGreatDoorSortL
import Derived.Orders
set_option maxRecDepth 100000
set_option maxHeartbeats 4000000
set_option linter.unusedSimpArgs false
set_option linter.unusedVariables false
set_option linter.unusedSectionVars false
section
/- The loop over kids. Made by a program (check.py, walk.py). -/
namespace Go.Proofs.YteafcepaolofpaaGreatDoor
open Go.RowKit
def KidLoop(K:CKey)(rec:NRec)(kids:List Node)(st':NS)(T0:Nat→Prop)(w:World)(B:Nat)(ob:Obj)(g:Nat)(j:Value)(W:World):Prop:=
  ∃k:Nat,j= .int .i64 k∧k≤kids.length∧g+k=kids.length+1∧∃st T ua uc,kidsF rec (kids.drop k) st=some st'∧CK K T ua uc st W∧CStep K T0 T w W∧W.heap[B]? =some ob∧Off K T B
end Go.Proofs.YteafcepaolofpaaGreatDoor
end
section
/- node at a name, walked. Made by a program (check.py, walk.py). -/
namespace Go.Proofs.YteafcepaolofpaaGreatDoor
open Go.RowKit

theorem node_v{K:CKey}(hK:CFix K){T:Nat→Prop}{ua:Option Addr}{uc:Nat}{st:NS}{w:World}(h:CK K T ua uc st w)(kd:Int)(tx:ByteArray)(fm:Nat)(na:Option Addr)(nc re im:Nat)(kids:List Node){rec:NRec}{st1 st':NS}(h4:kd=4)(h19:kd≠19)(h20:kd≠20)(h11:kd≠11)(h41:kd≠41)(h32:kd≠32)(h33:kd≠33)(h34:kd≠34)(h35:kd≠35)(hkl:kids.length≤1000000)(hkd:KidsR K.w0 (fun _=>True) kids (.slice na kids.length nc))(hrec:NodeC K rec)(hpre:preF K.g st (.mk kd tx fm kids re im)=some st1)(hcf:kidsF rec kids st1=some st'):
    Calls Tryz.prog 66 #[.pointer (some ⟨K.c,0,none⟩),.agg #[.int .i64 kd,.string tx,.float .f64 fm,.slice na kids.length nc,.complex .f64 re im]] w fun r w'=>∃T' ua' uc',r= .returned (.tuple #[])∧CK K T' ua' uc' (st') w'∧CStep K T T' w w':=by
  have e19:(kd==19)=false:=beq_false_of_ne h19
  have f19:(kd !=19)=true:=by simp [h19]
  have e20:(kd==20)=false:=beq_false_of_ne h20
  have f20:(kd !=20)=true:=by simp [h20]
  have e11:(kd==11)=false:=beq_false_of_ne h11
  have f11:(kd !=11)=true:=by simp [h11]
  have e41:(kd==41)=false:=beq_false_of_ne h41
  have f41:(kd !=41)=true:=by simp [h41]
  have e32:(kd==32)=false:=beq_false_of_ne h32
  have f32:(kd !=32)=true:=by simp [h32]
  have e33:(kd==33)=false:=beq_false_of_ne h33
  have f33:(kd !=33)=true:=by simp [h33]
  have e34:(kd==34)=false:=beq_false_of_ne h34
  have f34:(kd !=34)=true:=by simp [h34]
  have e35:(kd==35)=false:=beq_false_of_ne h35
  have f35:(kd !=35)=true:=by simp [h35]
  have HKD:=Lib.hid hkd;have HREC:=Lib.hid hrec;have HCF:=Lib.hid hcf
  have HNR:Hid (NodeR K.w0 (fun _=>True) (.mk kd tx fm kids re im) (.agg #[.int .i64 kd,.string tx,.float .f64 fm,.slice na kids.length nc,.complex .f64 re im])):=Lib.hid (.mk hkd)
  clear hkd hrec hcf h19 h20 h11 h41 h32 h33 h34 h35
  have HC0:=Lib.hid h;have HS0:=Lib.hid (CStep.refl K T w)
  clear h
  have H4:=Lib.hid h4
  clear h4
  go_enter Tryz.func66,Tryz.ntmps66
  obtain ⟨l_c,l_mf,l_ms,l_mn⟩:=HC0.out.lt
  go_upto_block 0 with fail
  refine wp_at (fun W=>Keeps [] w W∧W.heap[w.heap.size]? =some (.cells #[.int .i64 kd,.string tx,.float .f64 fm,.slice na kids.length nc,.complex .f64 re im] 58 (0,0))) ⟨(by with_reducible repeat (first|exact k0 _ _|refine kA ?_ _|refine kD ?_|refine kS ?_ (by simp)|refine kM ?_ (by simp))),(by simp only [hS,hA,hD,hM,World.size_setCell,World.size_drew,reduceIte,Option.map_some,Obj.put]<;>rfl)⟩ ?_
  rintro w1 ⟨Kw1,cw1_B⟩
  have n_c_B:K.c≠w.heap.size:=Nat.ne_of_lt l_c
  have n_B_c:w.heap.size≠K.c:=Nat.ne_of_gt l_c
  have n_mf_B:K.mf≠w.heap.size:=Nat.ne_of_lt l_mf
  have n_B_mf:w.heap.size≠K.mf:=Nat.ne_of_gt l_mf
  have n_ms_B:K.ms≠w.heap.size:=Nat.ne_of_lt l_ms
  have n_B_ms:w.heap.size≠K.ms:=Nat.ne_of_gt l_ms
  have n_mn_B:K.mn≠w.heap.size:=Nat.ne_of_lt l_mn
  have n_B_mn:w.heap.size≠K.mn:=Nat.ne_of_gt l_mn
  have o_B:w.heap.size≤w.heap.size:=Nat.le_refl _
  have off_B:Off K T (w.heap.size):=off_new HC0.out (Nat.le_refl _)
  have o0_B:K.w0.heap.size≤w.heap.size:=Nat.le_trans HC0.out.keep.size (Nat.le_refl _)
  have HCw1:=Lib.hid (HC0.out.kp0 Kw1)
  have HSw1:=Lib.hid (HS0.out.loc Kw1 (by simp))
  have Rw1_B:=Lib.hid cw1_B
  clear Kw1 cw1_B l_c l_mf l_ms l_mn HC0 HS0
  go_cut [] (fun W=>∃T' ua' uc',CK K T' ua' uc' st1 W∧CStep K T T' w W∧W.heap[w.heap.size]? =some (.cells #[.int .i64 kd,.string tx,.float .f64 fm,.slice na kids.length nc,.complex .f64 re im] 58 (0,0))∧Off K T' (w.heap.size))
  case first=>
    clear HKD HREC HCF
    have h4:=H4.out
    subst h4
    rw [preF_mk,if_pos rfl] at hpre
    obtain ⟨l_c,l_mf,l_ms,l_mn⟩:=HCw1.out.lt
    obtain ⟨l_B,xB_0,xB_1,xB_2,xB_3,xB_4,yB_0,yB_1,yB_2,yB_3,yB_4⟩:=cf5 Rw1_B.out
    go_wp2_with fail
    clear l_c l_B xB_0 xB_1 xB_2 xB_3 xB_4 yB_0 yB_1 yB_2 yB_3 yB_4 l_mf l_ms l_mn
    refine (named_any hK HCw1.out HNR.out).mono ?_
    rintro r e21 ⟨T21,ua21,uc21,rfl,hc,hs⟩
    have off2_B:=hs.off (h_lt Rw1_B.out) off_B
    have Re21_B:=Lib.hid (hs.at Rw1_B.out off_B)
    have off_B':=off2_B
    have HCe21:=Lib.hid hc
    have HSe21:=Lib.hid (HSw1.out.trans hs)
    clear Rw1_B off_B HCw1 HSw1 hc hs
    have off_B:=off_B'
    clear off_B' off2_B
    obtain ⟨l_c,xc_0,xc_1,xc_2,xc_3,xc_4,xc_5,xc_6,xc_7,xc_8,xc_9,xc_10,yc_0,yc_1,yc_2,yc_3,yc_4,yc_5,yc_6,yc_7,yc_8,yc_9,yc_10⟩:=cf11 HCe21.out.row
    obtain ⟨-,l_mf,l_ms,l_mn⟩:=HCe21.out.lt
    obtain ⟨l_B,xB_0,xB_1,xB_2,xB_3,xB_4,yB_0,yB_1,yB_2,yB_3,yB_4⟩:=cf5 Re21_B.out
    obtain ⟨oo,hoo⟩:∃x,x=ofF K.g (namedF K.g st (Node.mk 4 tx fm kids re im)) tx:=⟨_,rfl⟩
    rw [←hoo] at hpre
    obtain ⟨hul,rfl⟩:=useF_some hpre
    have HUL:=Lib.hid hul;have HOO:=Lib.hid hoo
    clear hul hoo hpre
    go_upto_region 4 with fail
    obtain ⟨i1,hi1,hi2,hi3,hi4⟩:=info106
    have HI:=Lib.hid (And.intro hi1 (And.intro hi2 (And.intro hi3 hi4)))
    clear hi1 hi2 hi3 hi4
    have HOF:=Lib.hid (of_at hK HCe21.out tx)
    rw [←HOO.out] at HOF
    have hul0:(namedF K.g st (Node.mk 4 tx fm kids re im)).uses.length=(oo).2.uses.length:=by rw [HOO.out,ofF_uses]
    try clear hcf
    try clear kc0
    try clear kc1
    try clear kc2
    try clear kc3
    try clear kc4
    try clear hcs
    try clear hcp
    try clear hlk
    try clear HREC
    try clear HKD
    try clear HSP
    try clear HFA
    try clear HFN
    try clear HFI
    try clear HCF
    try clear hkn
    try clear hm
    try clear hkl
    try clear hlt
    try clear hlt2
    try clear lg2
    try clear lg3
    try clear e4
    try clear e5
    try clear hk1
    try clear hi
    try clear o0_B
    try clear o_B
    try clear n_c_B
    try clear n_mf_B
    try clear n_ms_B
    try clear n_mn_B
    try clear n_B_c
    try clear n_B_mf
    try clear n_B_ms
    try clear n_B_mn
    try clear e19
    try clear e20
    try clear e11
    try clear e41
    try clear e32
    try clear e33
    try clear e34
    try clear e35
    try clear e4
    try clear e5
    try clear f19
    try clear f20
    try clear f11
    try clear f41
    try clear f32
    try clear f33
    try clear f34
    try clear f35
    try clear f4
    try clear f5
    try clear HNR
    go_region_law (first|((fail_if_success (have hm9:=hcu));refine step_call (f:=107) (vals:= #[.pointer (some ⟨K.c,0,none⟩),.string tx]) rfl _ rfl (by kernel_rfl) (HOF.out _ (by with_reducible repeat (first|exact k0 _ _|refine kA ?_ _|refine kD ?_|refine kS ?_ (by simp)|refine kM ?_ (by simp)))) ?_;rintro v u_ ⟨rfl,hcu,hsu⟩;have l_c2:=h_lt hcu.row;have q0:=cell_of_heap hcu.row 0;have q1:=cell_of_heap hcu.row 1;have q2:=cell_of_heap hcu.row 2;have q3:=cell_of_heap hcu.row 3;have q4:=cell_of_heap hcu.row 4;have q5:=cell_of_heap hcu.row 5;have q6:=cell_of_heap hcu.row 6;have q7:=cell_of_heap hcu.row 7;have q8:=cell_of_heap hcu.row 8;have q9:=cell_of_heap hcu.row 9;have q10:=cell_of_heap hcu.row 10;simp at q0 q1 q2 q3 q4 q5 q6 q7 q8 q9 q10;have r_B:=hsu.at Re21_B.out off_B;have lr_B:=h_lt r_B;have zB_0:=cell_of_heap r_B 0;have zB_1:=cell_of_heap r_B 1;have zB_2:=cell_of_heap r_B 2;have zB_3:=cell_of_heap r_B 3;have zB_4:=cell_of_heap r_B 4;simp at zB_0 zB_1 zB_2 zB_3 zB_4)|(refine step_at (fun W=>Keeps [] u_ W∧W.heap[u_.heap.size]? =some (.cells #[.complex .f64 re im,.int .i64 oo.1.1,.string oo.1.2,.bool false,.int .i64 0,.string ⟨#[]⟩,.bool false,.bool false] 141 (0,0))) ⟨(by with_reducible repeat (first|exact k0 _ _|refine kA ?_ _|refine kD ?_|refine kS ?_ (by simp)|refine kM ?_ (by simp))),(by simp only [heap_set_if,heap_alloc_if,heap_drew,World.size_alloc,World.size_setCell,World.size_drew,reduceIte,Option.map_some,Obj.put]<;>rfl)⟩ ?_;rintro wq ⟨hkq,cG⟩;refine step_appL useL rfl (.tmp 17) (.tmp 25) 90 rfl Tryz.underlying90 HI.out.1 HI.out.2.1 HI.out.2.2.1 HI.out.2.2.2 rfl (by decide) (by decide) rfl rfl (hcu.kp0 hkq).uses (c:= [.complex .f64 re im,.int .i64 oo.1.1,.string oo.1.2,.bool false,.int .i64 0,.string ⟨#[]⟩,.bool false,.bool false]) cG (x:=(⟨re,im,oo.1,false,noT,false,false⟩:Use)) (S:=fun _=>False) rfl (fun _ h=>h.elim) (fun _ h=>h.elim) (hcu.kp0 hkq).up (hcu.kp0 hkq).keep.size (Nat.le_of_lt HUL.out) ?_;rintro va wa fl hfl hka hown;obtain ⟨ka2,kc2,hva,-⟩:=hown.slice;obtain ⟨kn,hkn⟩:∃k,k=((oo.2).uses++ [(⟨re,im,oo.1,false,noT,false,false⟩:Use)]).length:=⟨_,rfl⟩;rw [←hkn] at hva;subst hva;have HKN:=Lib.hid hkn;clear hkn;have r_c:=hka.at (hcu.kp0 hkq).row (fun h=>(hcu.kp0 hkq).ns.1 (hfl _ h));have lw_c:=h_lt r_c;have z0:=cell_of_heap r_c 0;have z1:=cell_of_heap r_c 1;have z2:=cell_of_heap r_c 2;have z3:=cell_of_heap r_c 3;have z4:=cell_of_heap r_c 4;have z5:=cell_of_heap r_c 5;have z6:=cell_of_heap r_c 6;have z7:=cell_of_heap r_c 7;have z8:=cell_of_heap r_c 8;have z9:=cell_of_heap r_c 9;have z10:=cell_of_heap r_c 10;have zf0:=frozen_of_heap r_c 0;have zf1:=frozen_of_heap r_c 1;have zf2:=frozen_of_heap r_c 2;have zf3:=frozen_of_heap r_c 3;have zf4:=frozen_of_heap r_c 4;have zf5:=frozen_of_heap r_c 5;have zf6:=frozen_of_heap r_c 6;have zf7:=frozen_of_heap r_c 7;have zf8:=frozen_of_heap r_c 8;have zf9:=frozen_of_heap r_c 9;have zf10:=frozen_of_heap r_c 10;simp at z0 z1 z2 z3 z4 z5 z6 z7 z8 z9 z10))
    all_goals
      go_wp2_with fail
      go_meet
      case rel=>
        have hkn:=HKN.out
        subst hkn
        exact CK.app' hK HSe21.out Re21_B.out off_B hsu hcu hkq hfl hka hown (by with_reducible repeat (first|exact k0 _ _|refine kA ?_ _|refine kD ?_|refine kS ?_ (by simp)|refine kM ?_ (by simp))) (by simp only [hS,hA,hD,hM,reduceIte,Option.map_some,Obj.put,r_c]<;>rfl)
  case rest =>
    obtain ⟨T1,ua1,uc1,hc,hs,hB,off_B⟩:=hcut
    generalize wc=wl at*
    have HCl:=Lib.hid hc;have HSl:=Lib.hid hs;have RBl:=Lib.hid hB
    clear hc hs hB hpre HNR HCw1 HSw1 Rw1_B
    obtain ⟨l_c,l_mf,l_ms,l_mn⟩:=HCl.out.lt
    obtain ⟨l_B,xB_0,xB_1,xB_2,xB_3,xB_4,yB_0,yB_1,yB_2,yB_3,yB_4⟩:=cf5 RBl.out
    go_wp2_with fail
    clear l_c l_B xB_0 xB_1 xB_2 xB_3 xB_4 yB_0 yB_1 yB_2 yB_3 yB_4 l_mf l_ms l_mn
    go_loopg [144] (kids.length+1) (fun g j wr=>KidLoop K rec kids st' T w (w.heap.size) (.cells #[.int .i64 kd,.string tx,.float .f64 fm,.slice na kids.length nc,.complex .f64 re im] 58 (0,0)) g j wr)
    case atStart=>exact ⟨0,rfl,Nat.zero_le _,rfl,_,_,_,_,HCF.out,HCl.out,HSl.out,RBl.out,off_B⟩
    case round=>
      obtain ⟨k,rfl,hk1,hk2,st2,T2,ua2,uc2,hcf,hc,hs,hB,off_B⟩:=hrel
      have HCr:=Lib.hid hc;have HSr:=Lib.hid hs;have RB:=Lib.hid hB
      clear hc hs hB
      by_cases hlt:k<kids.length
      · obtain ⟨g3,o3,fm3,na3,nc3,hna,kc0,kc1,kc2,kc3,kc4,hkn⟩:=CK.kid HCr.out HKD.out hlt
        subst hna
        have lg3:g3<wr.heap.size:=lt_cell kc0
        rw [List.drop_eq_getElem_cons hlt,kidsF] at hcf
        generalize kids[k]=kk at*
        simp only [Option.bind_eq_bind,Option.bind_eq_some_iff] at hcf
        obtain ⟨s3,hr,hcf⟩:=hcf
        cases gk with
        |zero=>omega
        | succ f=>
          obtain ⟨l_c,l_mf,l_ms,l_mn⟩:=HCr.out.lt
          obtain ⟨l_B,xB_0,xB_1,xB_2,xB_3,xB_4,yB_0,yB_1,yB_2,yB_3,yB_4⟩:=cf5 RB.out
          go_wp2_with fail
          refine calls_at (fun W=>Keeps [] wr W∧W.heap[wr.heap.size]? =some (.cells #[.int .i64 kk.kind,.string kk.name,.float .f64 fm3,.slice na3 kk.kids.length nc3,.complex .f64 kk.re kk.im] 58 (0,0))) ⟨(by with_reducible repeat (first|exact k0 _ _|refine kA ?_ _|refine kD ?_|refine kS ?_ (by simp)|refine kM ?_ (by simp))),(by simp only [hS,hA,hD,hM,World.size_setCell,World.size_drew,reduceIte,Option.map_some,Obj.put]<;>rfl)⟩ ?_
          rintro w51 ⟨Kw51,cw51_Kd⟩
          have n_c_Kd:K.c≠wr.heap.size:=Nat.ne_of_lt l_c
          have n_Kd_c:wr.heap.size≠K.c:=Nat.ne_of_gt l_c
          have n_mf_Kd:K.mf≠wr.heap.size:=Nat.ne_of_lt l_mf
          have n_Kd_mf:wr.heap.size≠K.mf:=Nat.ne_of_gt l_mf
          have n_ms_Kd:K.ms≠wr.heap.size:=Nat.ne_of_lt l_ms
          have n_Kd_ms:wr.heap.size≠K.ms:=Nat.ne_of_gt l_ms
          have n_mn_Kd:K.mn≠wr.heap.size:=Nat.ne_of_lt l_mn
          have n_Kd_mn:wr.heap.size≠K.mn:=Nat.ne_of_gt l_mn
          have n_B_Kd:w.heap.size≠wr.heap.size:=Nat.ne_of_lt l_B
          have n_Kd_B:wr.heap.size≠w.heap.size:=Nat.ne_of_gt l_B
          have o_Kd:w.heap.size≤wr.heap.size:=HSr.out.size
          have off_Kd:Off K T2 (wr.heap.size):=off_new HCr.out (Nat.le_refl _)
          have o0_Kd:K.w0.heap.size≤wr.heap.size:=Nat.le_trans HCr.out.keep.size (Nat.le_refl _)
          have Rw51_B:=Lib.hid (Kw51.at RB.out (by simp))
          have HCw51:=Lib.hid (HCr.out.kp0 Kw51)
          have HSw51:=Lib.hid (HSr.out.loc Kw51 (by simp))
          have Rw51_Kd:=Lib.hid cw51_Kd
          clear Kw51 cw51_Kd l_c l_B xB_0 xB_1 xB_2 xB_3 xB_4 yB_0 yB_1 yB_2 yB_3 yB_4 l_mf l_ms l_mn RB HCr HSr
          refine (HREC.out _ _ _ _ hr hkn _ _ _ _ HCw51.out).mono ?_
          rintro r e52 ⟨T52,ua52,uc52,rfl,hc,hs⟩
          have off2_B:=hs.off (h_lt Rw51_B.out) off_B
          have Re52_B:=Lib.hid (hs.at Rw51_B.out off_B)
          have off2_Kd:=hs.off (h_lt Rw51_Kd.out) off_Kd
          have Re52_Kd:=Lib.hid (hs.at Rw51_Kd.out off_Kd)
          have off_B':=off2_B
          have off_Kd':=off2_Kd
          have HCe52:=Lib.hid hc
          have HSe52:=Lib.hid (HSw51.out.trans hs)
          clear Rw51_B off_B Rw51_Kd off_Kd HCw51 HSw51 hc hs
          have off_B:=off_B'
          clear off_B' off2_B
          have off_Kd:=off_Kd'
          clear off_Kd' off2_Kd
          obtain ⟨l_c,l_mf,l_ms,l_mn⟩:=HCe52.out.lt
          have l_B:=h_lt Re52_B.out
          have l_Kd:=h_lt Re52_Kd.out
          go_wp2_with fail
          go_roundg f
          case measure=>omega
          case rel=>
            exact ⟨k+1,by first|rfl|(simp;done)|(simp;omega),by omega,by omega,_,_,_,_,hcf,HCe52.out,HSe52.out,Re52_B.out,off_B⟩
      · have hke:k=kids.length:=by omega
        subst hke
        rw [List.drop_length,kidsF] at hcf
        obtain rfl:st2=st':=by simpa using hcf
        clear hcf
        obtain ⟨l_c,l_mf,l_ms,l_mn⟩:=HCr.out.lt
        have l_B:=h_lt RB.out
        go_wp2_with fail
        refine end_at (v:= .tuple #[]) (fun W=>Keeps [] wr W) (by with_reducible repeat (first|exact k0 _ _|refine kA ?_ _|refine kD ?_|refine kS ?_ (by simp)|refine kM ?_ (by simp))) (fun w51 hW=> ?_) rfl (fun w51 hW=> ?_)
        · have Kw51:Keeps [] wr w51:=hW
          simp [results,Tryz.results66,go_sem]
        · have Kw51:Keeps [] wr w51:=hW
          have Rw51_B:=Lib.hid (Kw51.at RB.out (by simp))
          have HCw51:=Lib.hid (HCr.out.kp0 Kw51)
          have HSw51:=Lib.hid (HSr.out.loc Kw51 (by simp))
          clear Kw51 l_c l_B l_mf l_ms l_mn RB HCr HSr
          exact ⟨_,_,_,rfl,HCw51.out,HSw51.out⟩
end Go.Proofs.YteafcepaolofpaaGreatDoor
end
section
/- A region that draws, by an invariant: what holds of the operations done holds behind one more. -/
namespace Go.Proofs.YteafcepaolofpaaGreatDoor
open Go.RowKit

theorem countP_lt{p p':Nat→Bool}(h:∀k,p' k=true→p k=true){i:Nat}(hp:p i=true)(hp':p' i=false):∀l:List Nat,i∈l→l.countP p'<l.countP p
  | [],hm=>by cases hm
  | x ::l,hm=>by
    have hle:l.countP p'≤l.countP p:=List.countP_mono_left fun k _ hk=>h k hk
    rw [List.countP_cons,List.countP_cons]
    rcases List.mem_cons.1 hm with rfl|hm
    · rw [hp,hp'];simp;omega
    · have:=countP_lt h hp hp' l hm
      by_cases hx:p' x=true
      · rw [hx,h x hx];omega
      · simp only [Bool.not_eq_true] at hx
        rw [hx];simp;split<;>omega
def nOpen(n:Nat)(L:Array Bool):Nat:=(List.range n).countP fun i=> !L.getD i true
theorem wpAny_inv{P:Program}{md:Region.Mode}{ops:Array Oper}{Q:Exit→Act→World→Prop}(I:Array Bool→Act→World→Prop)
    (hdone:∀L a w,I L a w→Region.ready md ops L= []→Q .normal a w)
    (hstep:∀L a w,I L a w→∀i∈Region.ready md ops L,wpOp P ops Q i (I (L.setIfInBounds i true)) a w):
    ∀(fuel:Nat) (L:Array Bool) (a:Act) (w:World),nOpen ops.size L≤fuel→I L a w→wpAny P md ops Q fuel L a w
  | 0,L,a,w,hn,h=>by
    have hr:Region.ready md ops L= []:=by
      rw [List.eq_nil_iff_forall_not_mem]
      intro i hi
      have h1:=(mem_ready.1 hi).1
      have h2:i∈List.range ops.size:=by unfold Region.ready at hi;exact (List.mem_filter.1 hi).1
      have h0:nOpen ops.size L=0:=by omega
      unfold nOpen at h0
      rw [List.countP_eq_zero] at h0
      exact absurd (h0 i h2) (by rw [h1];simp)
    exact ⟨hr,hdone L a w h hr⟩
  | fuel+1,L,a,w,hn,h=>by
    refine ⟨fun hr=>hdone L a w h hr,fun i hi=>wpOp_mono (fun a' w' h'=>wpAny_inv I hdone hstep fuel _ a' w' ?_ h') (hstep L a w h i hi)⟩
    have h1:=(mem_ready.1 hi).1
    have h2:i∈List.range ops.size:=by unfold Region.ready at hi;exact (List.mem_filter.1 hi).1
    have hlt:nOpen ops.size (L.setIfInBounds i true)<nOpen ops.size L:=by
      unfold nOpen
      refine countP_lt (i:=i) (fun k hk=> ?_) (by rw [h1];rfl) ?_ _ h2
      · by_cases hki:k=i
        · subst hki;rw [h1];rfl
        · simp only [Array.getD_eq_getD_getElem?,Array.getElem?_setIfInBounds,Ne.symm hki,if_false] at hk
          simpa [Array.getD_eq_getD_getElem?] using hk
      · have hL:i<L.size:=by
          by_cases hl:i<L.size
          · exact hl
          · simp [Array.getD_eq_getD_getElem?,Array.getElem?_eq_none (Nat.not_lt.1 hl)] at h1
        simp [Array.getD_eq_getD_getElem?,hL]
    omega
theorem wp_region_inv{P:Program}{ops:Array Oper}{Q:Exit→Act→World→Prop}{id:Nat}{a:Act}{w:World}(hm:P.follows .mixedOrders=true)(I:Array Bool→Act→World→Prop)
    (h0:I (Array.replicate ops.size false) a w.drew)
    (hdone:∀L a w,I L a w→Region.ready .any ops L= []→Q .normal a w)
    (hstep:∀L a w,I L a w→∀i∈Region.ready .any ops L,wpOp P ops Q i (I (L.setIfInBounds i true)) a w):(Code.region id ops true).wp P Q a w:=
  wp_region_any hm (wpAny_inv I hdone hstep _ _ _ _ (by unfold nOpen;exact Nat.le_trans (List.countP_le_length) (by simp)) h0)
/-- One operation that hands back a value. -/
theorem wpOp_val{P:Program}{ops:Array Oper}{Q:Exit→Act→World→Prop}{i:Nat}{K:Act→World→Prop}{a:Act}{w w':World}{o:Oper}{v:Value}(hi:ops[i]? =some o)(hg:o.guard=none)(hrun:(execOp a.eval o).run P w= .ok (.value v) w')(h:K (a.put o.dst v) w'):wpOp P ops Q i K a w:=by
  unfold wpOp
  rw [hi]
  simp only [Region.wanted,hg,if_true]
  left
  unfold Oper.wp
  rw [hrun]
  exact h
theorem wpOp_skip{P:Program}{ops:Array Oper}{Q:Exit→Act→World→Prop}{i:Nat}{K:Act→World→Prop}{a:Act}{w w':World}{o:Oper}(hi:ops[i]? =some o)(hg:o.guard=none)(hd:o.dst=none)(hrun:(execOp a.eval o).run P w= .ok .skip w')(h:K a w'):wpOp P ops Q i K a w:=by
  unfold wpOp
  rw [hi]
  simp only [Region.wanted,hg,if_true]
  left
  unfold Oper.wp
  rw [hrun]
  show K (a.put o.dst undef) w'
  rw [hd]
  exact h
theorem wpOp_call{P:Program}{ops:Array Oper}{Q:Exit→Act→World→Prop}{i:Nat}{K:Act→World→Prop}{a:Act}{w:World}{o:Oper}{f:FuncId}{vals:Array Value}(hi:ops[i]? =some o)(hg:o.guard=none)(hrun:(execOp a.eval o).run P w= .ok (.enter f vals) w){R:Value→World→Prop}(hc:Calls P f vals w fun e w'=>∃v,e= .returned v∧R v w')(hK:∀v w',R v w'→K (a.put o.dst v) w'):wpOp P ops Q i K a w:=by
  unfold wpOp
  rw [hi]
  simp only [Region.wanted,hg,if_true]
  left
  unfold Oper.wp
  rw [hrun,Oper.upon_enter]
  exact hc.mono fun e w' ⟨v,he,hr⟩=>by subst he;exact hK v w' hr
end Go.Proofs.YteafcepaolofpaaGreatDoor
end
