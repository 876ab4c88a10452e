/- call, walked over its kids. Made by a program (check.py, walk.py). -/
import Derived.Test.YteafcepaolofpaaGreatDoorRegR
set_option maxRecDepth 100000
set_option maxHeartbeats 4000000
set_option linter.unusedSimpArgs false
set_option linter.unusedVariables false
set_option linter.unusedSectionVars false
namespace Go.Proofs.YteafcepaolofpaaGreatDoor
open Go.RowKit
def CallI(K:CKey)(rec:NRec)(fn:Nat)(ps:List ByteArray)(kids:List Node)(st':NS)(T0:Nat→Prop)(w:World)(B:Nat)(ob:Obj)(g:Nat)(j:Value)(W:World):Prop:=
  ∃k:Nat,j= .int .i64 k∧k≤kids.length∧g+k=kids.length+1∧∃st T ua uc,callF K.g rec fn (ps.drop k) (kids.drop k) st=some st'∧CK K T ua uc st W∧CStep K T0 T w W∧W.heap[B]? =some ob∧Off K T B


set_option maxHeartbeats 40000000 in
theorem call_2{K : CKey}(hK:CFix K){T:Nat→Prop}{ua:Option Addr}{uc:Nat}{st:NS}{w:World}(h:CK K T ua uc st w)(kd:Int)(tx:ByteArray)(fm:Nat)(na:Option Addr)(nc re im:Nat)(kids:List Node){fn i:Nat}{rec:NRec}{st':NS}(hfn:fn=flook K.g tx)(hfi:fn=i+1)(hi:i<K.g.funcs.length)(hm:kids.length≤K.g.funcs[i].params.length)(hkl:kids.length≤1000000)(hkd:KidsR K.w0 (fun _=>True) kids (.slice na kids.length nc))(hrec:NodeC K rec)(hcf:callF K.g rec fn K.g.funcs[i].params kids st=some st'):
    Calls Tryz.prog 108 #[.pointer (some ⟨K.c,0,none⟩),.agg #[.int .i64 kd,.string tx,.float .f64 fm,.slice na kids.length nc,.complex .f64 re im]] w fun r w'=>∃T' ua' uc',r= .returned (.tuple #[])∧CK K T' ua' uc' (st') w'∧CStep K T T' w w':=by
  have d1:(0:Int)<(fn:Int):=by omega
  have d0:decide (0<fn)=true:=by simp;omega
  have d2:(fn:Int) -1=(i:Int):=by omega
  have d3:(i:Int)<(K.g.funcs.length:Int):=by omega
  have d4:(fn:Int)≤1000000:=by have:=hK.small;omega
  have d5:((fn:Int)==0)=false:=by simp;omega
  have d6:(fn==0)=false:=by simp;omega
  have d7:¬fn=0:=by omega
  have d8:decide (K.g.funcs[i].params.length<kids.length)=false:=by simp;omega
  have d9:¬K.g.funcs[i].params.length<kids.length:=by omega
  have HKD:=Lib.hid hkd;have HREC:=Lib.hid hrec;have HCF:=Lib.hid hcf
  clear hkd hrec hcf
  have HC0:=Lib.hid h;have HS0:=Lib.hid (CStep.refl K T w);have HFN:=Lib.hid hfn;have HFI:=Lib.hid hfi
  clear h hfn hfi
  go_enter Tryz.func108,Tryz.ntmps108
  obtain ⟨l_c,l_mf,l_ms,l_mn⟩:=HC0.out.lt
  go_upto_region 1 with fail
  refine wp_at (fun W=>Keeps [] w W∧W.heap[w.heap.size]? =some (.cells #[.int .i64 kd,.string tx,.float .f64 fm,.slice na kids.length nc,.complex .f64 re im] 58 (0,0))) ⟨(by with_reducible repeat (first|exact k0 _ _|refine kA ?_ _|refine kD ?_|refine kS ?_ (by simp)|refine kM ?_ (by simp))),(by simp only [hS,hA,hD,hM,World.size_setCell,World.size_drew,reduceIte,Option.map_some,Obj.put]<;>rfl)⟩ ?_
  rintro w1 ⟨Kw1,cw1_B⟩
  have n_c_B:K.c≠w.heap.size:=Nat.ne_of_lt l_c
  have n_B_c:w.heap.size≠K.c:=Nat.ne_of_gt l_c
  have n_mf_B:K.mf≠w.heap.size:=Nat.ne_of_lt l_mf
  have n_B_mf:w.heap.size≠K.mf:=Nat.ne_of_gt l_mf
  have n_ms_B:K.ms≠w.heap.size:=Nat.ne_of_lt l_ms
  have n_B_ms:w.heap.size≠K.ms:=Nat.ne_of_gt l_ms
  have n_mn_B:K.mn≠w.heap.size:=Nat.ne_of_lt l_mn
  have n_B_mn:w.heap.size≠K.mn:=Nat.ne_of_gt l_mn
  have o_B:w.heap.size≤w.heap.size:=Nat.le_refl _
  have off_B:Off K T (w.heap.size):=off_new HC0.out (Nat.le_refl _)
  have o0_B:K.w0.heap.size≤w.heap.size:=Nat.le_trans HC0.out.keep.size (Nat.le_refl _)
  have HCw1:=Lib.hid (HC0.out.kp0 Kw1)
  have HSw1:=Lib.hid (HS0.out.loc Kw1 (by simp))
  have Rw1_B:=Lib.hid cw1_B
  clear Kw1 cw1_B l_c l_mf l_ms l_mn HC0 HS0
  obtain ⟨l_c,xc_0,xc_1,xc_2,xc_3,xc_4,xc_5,xc_6,xc_7,xc_8,xc_9,xc_10,yc_0,yc_1,yc_2,yc_3,yc_4,yc_5,yc_6,yc_7,yc_8,yc_9,yc_10⟩:=cf11 HCw1.out.row
  obtain ⟨-,l_mf,l_ms,l_mn⟩:=HCw1.out.lt
  obtain ⟨l_B,xB_0,xB_1,xB_2,xB_3,xB_4,yB_0,yB_1,yB_2,yB_3,yB_4⟩:=cf5 Rw1_B.out
  have hlk:=HCw1.out.flook' tx (v:=(fn:Int)) (by rw [HFN.out])
  go_cut [4] (fun s4 W=>s4= .int .i64 fn∧Keeps [] w1 W)
  case first=>
    go_region
    all_goals
      go_wp2_with fail
      go_meet
      case rel=>exact ⟨rfl,(by with_reducible repeat (first|exact k0 _ _|refine kA ?_ _|refine kD ?_|refine kS ?_ (by simp)|refine kM ?_ (by simp)))⟩
  case rest =>
    obtain ⟨rfl,hk⟩:=hcut
    generalize wc=w2 at*
    have Rw2_B:=Lib.hid (hk.at Rw1_B.out (by simp))
    have HCw2:=Lib.hid (HCw1.out.kp0 hk)
    have HSw2:=Lib.hid (HSw1.out.loc hk (by simp))
    clear hk Rw1_B HCw1 HSw1 l_c xc_0 xc_1 xc_2 xc_3 xc_4 xc_5 xc_6 xc_7 xc_8 xc_9 xc_10 yc_0 yc_1 yc_2 yc_3 yc_4 yc_5 yc_6 yc_7 yc_8 yc_9 yc_10 l_B xB_0 xB_1 xB_2 xB_3 xB_4 yB_0 yB_1 yB_2 yB_3 yB_4 l_mf l_ms l_mn
    obtain ⟨l_c,xc_0,xc_1,xc_2,xc_3,xc_4,xc_5,xc_6,xc_7,xc_8,xc_9,xc_10,yc_0,yc_1,yc_2,yc_3,yc_4,yc_5,yc_6,yc_7,yc_8,yc_9,yc_10⟩:=cf11 HCw2.out.row
    obtain ⟨-,l_mf,l_ms,l_mn⟩:=HCw2.out.lt
    obtain ⟨l_B,xB_0,xB_1,xB_2,xB_3,xB_4,yB_0,yB_1,yB_2,yB_3,yB_4⟩:=cf5 Rw2_B.out
    obtain ⟨g,o,pa,pc,b0,b1,b2,b3,b4,hfa,-,hcp,-,-,-,-,-,-,hsp,-⟩:=CK.func hK HCw2.out hi
    have HSP:=Lib.hid hsp;have HFA:=Lib.hid hfa
    clear hsp
    rw [hfa] at xc_1
    clear hfa
    go_wp2_with fail
    clear l_c xc_0 xc_1 xc_2 xc_3 xc_4 xc_5 xc_6 xc_7 xc_8 xc_9 xc_10 yc_0 yc_1 yc_2 yc_3 yc_4 yc_5 yc_6 yc_7 yc_8 yc_9 yc_10 l_B xB_0 xB_1 xB_2 xB_3 xB_4 yB_0 yB_1 yB_2 yB_3 yB_4 l_mf l_ms l_mn
    go_loopg [47] (kids.length+1) (fun g j wr=>CallI K rec fn K.g.funcs[i].params kids st' T w (w.heap.size) (.cells #[.int .i64 kd,.string tx,.float .f64 fm,.slice na kids.length nc,.complex .f64 re im] 58 (0,0)) g j wr)
    case atStart=>exact ⟨0,rfl,Nat.zero_le _,rfl,_,_,_,_,HCF.out,HCw2.out,HSw2.out,Rw2_B.out,off_B⟩
    case round=>
      obtain ⟨k,rfl,hk1,hk2,st1,T1,ua1,uc1,hcf,hc,hs,hB,off_B⟩:=hrel
      have HCr:=Lib.hid hc;have HSr:=Lib.hid hs;have RB:=Lib.hid hB
      clear hc hs hB d1 d0 d2 d3 d4 d5 d6 d7 d8 d9
      by_cases hlt:k<kids.length
      · have hlt2 : k<K.g.funcs[i].params.length:=Nat.lt_of_lt_of_le hlt hm
        obtain ⟨g3,o3,fm3,na3,nc3,hna,kc0,kc1,kc2,kc3,kc4,hkn⟩:=CK.kid HCr.out HKD.out hlt
        subst hna
        obtain ⟨g2,o2,hpa,hcs⟩:=CK.str HCr.out HSP.out hlt2
        subst hpa
        have lg2:g2<wr.heap.size:=lt_cell hcs
        have lg3:g3<wr.heap.size:=lt_cell kc0
        rw [List.drop_eq_getElem_cons hlt,List.drop_eq_getElem_cons hlt2,callF] at hcf
        generalize K.g.funcs[i].params[k]=q at*
        generalize kids[k]=kk at*
        cases gk with
        |zero=>omega
        | succ f=>
          by_cases h4:kk.kind=4
          · rw [if_neg (by simp [h4])] at hcf
            simp only [Option.bind_eq_bind,Option.bind_eq_some_iff] at hcf
            obtain ⟨ra,hra,rb,hrb,hcf⟩:=hcf
            have e4:(kk.kind==4)=true:=by simp [h4]
            have e5:(kk.kind !=4)=false:=by simp [h4]
            clear h4
            obtain ⟨l_c,l_mf,l_ms,l_mn⟩:=HCr.out.lt
            have l_mf_1:K.mf<wr.heap.size+1:=Nat.lt_add_right 1 l_mf
            have l_ms_1:K.ms<wr.heap.size+1:=Nat.lt_add_right 1 l_ms
            have l_mn_1:K.mn<wr.heap.size+1:=Nat.lt_add_right 1 l_mn
            have l_B:=h_lt RB.out
            have l_B_1:w.heap.size<wr.heap.size+1:=Nat.lt_add_right 1 l_B
            have l_c_1:K.c<wr.heap.size+1:=Nat.lt_add_right 1 l_c
            go_wp2_with fail
            refine calls_at (fun W=>Keeps [] wr W∧W.heap[wr.heap.size]? =some (.cells #[.int .i64 kk.kind,.string kk.name,.float .f64 fm3,.slice na3 kk.kids.length nc3,.complex .f64 kk.re kk.im] 58 (0,0))∧W.heap[wr.heap.size+1]? =some (.cells #[.int .i64 fn,.string q] 137 (0,0))) ⟨(by with_reducible repeat (first|exact k0 _ _|refine kA ?_ _|refine kD ?_|refine kS ?_ (by simp)|refine kM ?_ (by simp))),(by simp only [hS,hA,hD,hM,World.size_alloc,World.size_setCell,World.size_drew,size_mset,Nat.add_right_cancel_iff,Nat.left_eq_add,Nat.add_eq_left,Nat.reduceEqDiff,Nat.add_assoc,Nat.reduceAdd,Nat.one_ne_zero,Nat.zero_ne_one,reduceIte,Option.map_some,Obj.put]<;>rfl),(by simp only [hS,hA,hD,hM,World.size_alloc,World.size_setCell,World.size_drew,size_mset,Nat.add_right_cancel_iff,Nat.left_eq_add,Nat.add_eq_left,Nat.reduceEqDiff,Nat.add_assoc,Nat.reduceAdd,Nat.one_ne_zero,Nat.zero_ne_one,reduceIte,Option.map_some,Obj.put]<;>rfl)⟩ ?_
            rintro w51 ⟨Kw51,cw51_Kd,cw51_P⟩
            have n_c_Kd:K.c≠wr.heap.size:=Nat.ne_of_lt l_c
            have n_Kd_c:wr.heap.size≠K.c:=Nat.ne_of_gt l_c
            have n_mf_Kd:K.mf≠wr.heap.size:=Nat.ne_of_lt l_mf
            have n_Kd_mf:wr.heap.size≠K.mf:=Nat.ne_of_gt l_mf
            have n_ms_Kd:K.ms≠wr.heap.size:=Nat.ne_of_lt l_ms
            have n_Kd_ms:wr.heap.size≠K.ms:=Nat.ne_of_gt l_ms
            have n_mn_Kd:K.mn≠wr.heap.size:=Nat.ne_of_lt l_mn
            have n_Kd_mn:wr.heap.size≠K.mn:=Nat.ne_of_gt l_mn
            have n_B_Kd:w.heap.size≠wr.heap.size:=Nat.ne_of_lt l_B
            have n_Kd_B:wr.heap.size≠w.heap.size:=Nat.ne_of_gt l_B
            have o_Kd:w.heap.size≤wr.heap.size:=HSr.out.size
            have off_Kd:Off K T1 (wr.heap.size):=off_new HCr.out (Nat.le_refl _)
            have o0_Kd:K.w0.heap.size≤wr.heap.size:=Nat.le_trans HCr.out.keep.size (Nat.le_refl _)
            have n_c_P:K.c≠wr.heap.size+1:=Nat.ne_of_lt (Nat.lt_add_right 1 l_c)
            have n_P_c:wr.heap.size+1≠K.c:=Nat.ne_of_gt (Nat.lt_add_right 1 l_c)
            have n_mf_P:K.mf≠wr.heap.size+1:=Nat.ne_of_lt (Nat.lt_add_right 1 l_mf)
            have n_P_mf:wr.heap.size+1≠K.mf:=Nat.ne_of_gt (Nat.lt_add_right 1 l_mf)
            have n_ms_P:K.ms≠wr.heap.size+1:=Nat.ne_of_lt (Nat.lt_add_right 1 l_ms)
            have n_P_ms:wr.heap.size+1≠K.ms:=Nat.ne_of_gt (Nat.lt_add_right 1 l_ms)
            have n_mn_P:K.mn≠wr.heap.size+1:=Nat.ne_of_lt (Nat.lt_add_right 1 l_mn)
            have n_P_mn:wr.heap.size+1≠K.mn:=Nat.ne_of_gt (Nat.lt_add_right 1 l_mn)
            have n_B_P:w.heap.size≠wr.heap.size+1:=Nat.ne_of_lt (Nat.lt_add_right 1 l_B)
            have n_P_B:wr.heap.size+1≠w.heap.size:=Nat.ne_of_gt (Nat.lt_add_right 1 l_B)
            have n_Kd_P:wr.heap.size≠wr.heap.size+1:=by simp
            have n_P_Kd:wr.heap.size+1≠wr.heap.size:=by simp
            have o_P:w.heap.size≤wr.heap.size+1:=Nat.le_trans (HSr.out.size) (Nat.le_add_right _ 1)
            have off_P:Off K T1 (wr.heap.size+1):=off_new HCr.out (Nat.le_add_right _ 1)
            have o0_P:K.w0.heap.size≤wr.heap.size+1:=Nat.le_trans HCr.out.keep.size (Nat.le_add_right _ 1)
            have Rw51_B:=Lib.hid (Kw51.at RB.out (by simp))
            have HCw51:=Lib.hid (HCr.out.kp0 Kw51)
            have HSw51:=Lib.hid (HSr.out.loc Kw51 (by simp))
            have Rw51_Kd:=Lib.hid cw51_Kd
            have Rw51_P:=Lib.hid cw51_P
            clear Kw51 cw51_Kd cw51_P l_c l_c_1 l_B l_B_1 l_mf_1 l_ms_1 l_mn_1 l_mf l_ms l_mn RB HCr HSr
            refine (named_any hK HCw51.out hkn).mono ?_
            rintro r e52 ⟨T52,ua52,uc52,rfl,hc,hs⟩
            have off2_B:=hs.off (h_lt Rw51_B.out) off_B
            have Re52_B:=Lib.hid (hs.at Rw51_B.out off_B)
            have off2_Kd:=hs.off (h_lt Rw51_Kd.out) off_Kd
            have Re52_Kd:=Lib.hid (hs.at Rw51_Kd.out off_Kd)
            have off2_P:=hs.off (h_lt Rw51_P.out) off_P
            have Re52_P:=Lib.hid (hs.at Rw51_P.out off_P)
            have off_B':=off2_B
            have off_Kd':=off2_Kd
            have off_P':=off2_P
            have HCe52:=Lib.hid hc
            have HSe52:=Lib.hid (HSw51.out.trans hs)
            clear Rw51_B off_B Rw51_Kd off_Kd Rw51_P off_P HCw51 HSw51 hc hs
            have off_B:=off_B'
            clear off_B' off2_B
            have off_Kd:=off_Kd'
            clear off_Kd' off2_Kd
            have off_P:=off_P'
            clear off_P' off2_P
            obtain ⟨l_c,l_mf,l_ms,l_mn⟩:=HCe52.out.lt
            have l_B:=h_lt Re52_B.out
            obtain ⟨l_Kd,xKd_0,xKd_1,xKd_2,xKd_3,xKd_4,yKd_0,yKd_1,yKd_2,yKd_3,yKd_4⟩:=cf5 Re52_Kd.out
            obtain ⟨l_P,xP_0,xP_1,yP_0,yP_1⟩:=cf2 Re52_P.out
            obtain ⟨oo,hoo⟩:∃x,x=(ofF K.g (namedF K.g st1 kk) kk.name):=⟨_,rfl⟩
            rw [←hoo] at hcf hra hrb
            have HRA:=Lib.hid hra;have HRB:=Lib.hid hrb;have HOO:=Lib.hid hoo
            clear hra hrb hoo
            go_upto_region 15 with fail
            go_cut [9,10] (fun s9 s10 W=>∃x y:Nat,s9= .pointer (some ⟨x,0,none⟩)∧s10= .pointer (some ⟨y,0,none⟩)∧e52.heap.size≤x∧e52.heap.size≤y∧CK K T52 ua52 uc52 (oo.2) W∧CStep K T52 T52 e52 W∧W.heap[x]? =some (.cells #[.int .i64 ra.1,.string ra.2] 137 (0,0))∧W.heap[y]? =some (.cells #[.int .i64 rb.1,.string rb.2] 137 (0,0)))
            case first=>
              clear xKd_0 xKd_1 xKd_2 xKd_3 xKd_4 yKd_0 yKd_1 yKd_2 yKd_3 yKd_4 xP_0 xP_1 yP_0 yP_1
              refine roots_region (o:=oo) (ra:=ra) (rb:=rb) (pt:=((fn,q):Thing)) (name:=kk.name) hK (by kernel_rfl) ?ho HCe52.out HOO.out ?hsm HRA.out HRB.out Re52_P.out Re52_Kd.out off_P off_Kd rfl rfl rfl (by first|decide|simp) ?hQ
              case ho=>exact ⟨rfl,by kernel_rfl,⟨_,_,_,rfl⟩,⟨_,_,_,rfl⟩,⟨_,_,_,rfl⟩,⟨_,_,rfl,by kernel_rfl⟩,⟨_,_,rfl,by kernel_rfl,by kernel_rfl⟩,⟨_,_,rfl,by kernel_rfl,by kernel_rfl⟩,⟨_,_,_,rfl⟩,⟨_,_,rfl⟩,⟨_,_,rfl,by kernel_rfl,by kernel_rfl⟩,⟨_,_,_,rfl⟩,⟨_,_,_,rfl⟩,⟨_,_,_,rfl,by kernel_rfl,by kernel_rfl⟩,⟨_,_,_,rfl,by kernel_rfl,by kernel_rfl⟩⟩
              case hsm=>rw [HOO.out];exact ofF_same _ _ _
              case hQ=>
                intro aa wa xa ya hd ht hs h9 h10 hbx hby hck hcs hrx hry
                obtain ⟨u9,u10,u80,u81,u82,u83,u84,u85,u86,u87,u88,ha,e9,e10⟩:=act_of hd ht hs (by first|decide|simp)
                rw [h9] at e9
                rw [h10] at e10
                obtain rfl:=Option.some.inj e9
                obtain rfl:=Option.some.inj e10
                rw [ha]
                clear ha hd ht hs h9 h10
                simp only [Act.put,List.setIfInBounds_toArray,List.set_cons_succ,List.set_cons_zero,ptrV]
                go_wp2_with fail
                go_meet
                case rel=>exact ⟨xa,ya,rfl,rfl,hbx,hby,hck,hcs,hrx,hry⟩
            case rest=>
              obtain ⟨x53,y53,rfl,rfl,hlx,hly,hc,hs,ha,hb⟩:=hcut
              generalize wc=w53 at*
              clear l_c l_B l_Kd xKd_0 xKd_1 xKd_2 xKd_3 xKd_4 yKd_0 yKd_1 yKd_2 yKd_3 yKd_4 l_P xP_0 xP_1 yP_0 yP_1 l_mf l_ms l_mn
              skip
              have off_A:=off_new HCe52.out hlx
              have off_B2:=off_new HCe52.out hly
              have RA:=Lib.hid ha
              have RB2:=Lib.hid hb
              clear ha hb hlx hly
              have off2_B:=hs.off (h_lt Re52_B.out) off_B
              have Rw53_B:=Lib.hid (hs.at Re52_B.out off_B)
              have off2_Kd:=hs.off (h_lt Re52_Kd.out) off_Kd
              have Rw53_Kd:=Lib.hid (hs.at Re52_Kd.out off_Kd)
              have off2_P:=hs.off (h_lt Re52_P.out) off_P
              have Rw53_P:=Lib.hid (hs.at Re52_P.out off_P)
              have off_B':=off2_B
              have off_Kd':=off2_Kd
              have off_P':=off2_P
              have HCw53:=Lib.hid hc
              have HSw53:=Lib.hid (HSe52.out.trans hs)
              clear Re52_B off_B Re52_Kd off_Kd Re52_P off_P HCe52 HSe52 hc hs
              have off_B:=off_B'
              clear off_B' off2_B
              have off_Kd:=off_Kd'
              clear off_Kd' off2_Kd
              have off_P:=off_P'
              clear off_P' off2_P
              have n_A_c:=off_A.1
              have n_c_A:=Ne.symm off_A.1
              have n_A_ms:=off_A.2.1
              have n_ms_A:=Ne.symm off_A.2.1
              have n_A_mn:=off_A.2.2.1
              have n_mn_A:=Ne.symm off_A.2.2.1
              have n_B2_c:=off_B2.1
              have n_c_B2:=Ne.symm off_B2.1
              have n_B2_ms:=off_B2.2.1
              have n_ms_B2:=Ne.symm off_B2.2.1
              have n_B2_mn:=off_B2.2.2.1
              have n_mn_B2:=Ne.symm off_B2.2.2.1
              by_cases ht:teq ra rb=true
              · rw [if_pos ht] at hcf
                have hne:∀W,(Op.equalIn 10000 137 (.agg #[.int .i64 ra.1,.string ra.2]) (.agg #[.int .i64 rb.1,.string rb.2])).run Tryz.prog W= .ok true W:=fun W=>(run_equal_thing W 9998 ra rb).trans (by rw [teq_iff.1 ht];simp)
                obtain ⟨l_c,l_mf,l_ms,l_mn⟩:=HCw53.out.lt
                have l_B:=h_lt Rw53_B.out
                have l_Kd:=h_lt Rw53_Kd.out
                have l_P:=h_lt Rw53_P.out
                obtain ⟨l_A,xA_0,xA_1,yA_0,yA_1⟩:=cf2 RA.out
                obtain ⟨l_B2,xB2_0,xB2_1,yB2_0,yB2_1⟩:=cf2 RB2.out
                go_wp2_with fail
                go_roundg f
                case measure=>omega
                case rel=>
                  exact ⟨k+1,by first|rfl|(simp;done)|(simp;omega),by omega,by omega,_,_,_,_,hcf,HCw53.out,HSw53.out,Rw53_B.out,off_B⟩
              · rw [if_neg ht] at hcf
                have hne:∀W,(Op.equalIn 10000 137 (.agg #[.int .i64 ra.1,.string ra.2]) (.agg #[.int .i64 rb.1,.string rb.2])).run Tryz.prog W= .ok false W:=fun W=>(run_equal_thing W 9998 ra rb).trans (by rw [decide_eq_false (fun h=>ht (teq_iff.2 h))])
                obtain ⟨l_c,xc_0,xc_1,xc_2,xc_3,xc_4,xc_5,xc_6,xc_7,xc_8,xc_9,xc_10,yc_0,yc_1,yc_2,yc_3,yc_4,yc_5,yc_6,yc_7,yc_8,yc_9,yc_10⟩:=cf11 HCw53.out.row
                obtain ⟨-,l_mf,l_ms,l_mn⟩:=HCw53.out.lt
                have l_B:=h_lt Rw53_B.out
                have l_Kd:=h_lt Rw53_Kd.out
                have l_P:=h_lt Rw53_P.out
                obtain ⟨l_A,xA_0,xA_1,yA_0,yA_1⟩:=cf2 RA.out
                obtain ⟨l_B2,xB2_0,xB2_1,yB2_0,yB2_1⟩:=cf2 RB2.out
                have HAN:=Lib.hid (rootF_root HRA.out)
                go_upto_region 17 with fail
                obtain ⟨es,ek,hes,hes2⟩:=HCw53.out.same
                have HEB:=Lib.hid hes;have HES:=Lib.hid hes2
                clear hes hes2
                have hup:=run_same (W:=w53.drew) HEB.out ra rb
                go_wp2_with fail
                go_region
                all_goals
                  obtain ⟨l_c,l_mf,l_ms,l_mn⟩:=HCw53.out.lt
                  have l_B:=h_lt Rw53_B.out
                  have l_Kd:=h_lt Rw53_Kd.out
                  have l_P:=h_lt Rw53_P.out
                  have l_A:=h_lt RA.out
                  have l_B2:=h_lt RB2.out
                  go_wp2_with fail
                  go_roundg f
                  case measure=>omega
                  case rel=>
                    refine inv_at (fun W=>Keeps [K.ms] w53 W∧W.heap[K.ms]? =some (.map (ents tval (kput ra (tval rb) ek es).1) (kput ra (tval rb) ek es).2)) ⟨(by with_reducible repeat (first|exact k0 _ _|refine kA ?_ _|refine kD ?_|refine kS ?_ (by simp)|refine kM ?_ (by simp))),(by simp only [hS,hA,hD,hM,reduceIte,Option.map_some,Obj.put,HEB.out,Nat.ne_of_lt l_ms,Nat.ne_of_gt l_ms]<;>rfl)⟩ ?_
                    rintro w54 ⟨Kw54,cw54_ms⟩
                    have Rw54_B:=Lib.hid (Kw54.at Rw53_B.out (by simp [n_B_ms]))
                    have Rw54_Kd:=Lib.hid (Kw54.at Rw53_Kd.out (by simp [n_Kd_ms]))
                    have Rw54_P:=Lib.hid (Kw54.at Rw53_P.out (by simp [n_P_ms]))
                    have Rw54_A:=Lib.hid (Kw54.at RA.out (by simp [n_A_ms]))
                    have Rw54_B2:=Lib.hid (Kw54.at RB2.out (by simp [n_B2_ms]))
                    have HCw54:Hid (CK K T52 ua52 uc52 ({oo.2 with same:=oo.2.same++ [(ra,rb)]}) w54):=Lib.hid (HCw53.out.unite hK HAN.out HES.out Kw54 cw54_ms)
                    have HSw54:=Lib.hid (HSw53.out.ms Kw54)
                    have Rw54_ms:=Lib.hid cw54_ms
                    clear Kw54 cw54_ms l_c l_B l_Kd l_P l_A l_B2 l_mf l_ms l_mn Rw53_B Rw53_Kd Rw53_P RA RB2 HCw53 HSw53
                    exact ⟨k+1,by first|rfl|(simp;done)|(simp;omega),by omega,by omega,_,_,_,_,hcf,HCw54.out,HSw54.out,Rw54_B.out,off_B⟩
          · rw [if_pos h4] at hcf
            simp only [Option.bind_eq_bind,Option.bind_eq_some_iff] at hcf
            obtain ⟨s2,hu,s3,hr,hcf⟩:=hcf
            obtain ⟨hul,rfl⟩:=useF_some hu
            have HUL:=Lib.hid hul
            have e4:(kk.kind==4)=false:=beq_false_of_ne h4
            have e5:(kk.kind !=4)=true:=by simp [h4]
            clear hu hul
            obtain ⟨l_c,l_mf,l_ms,l_mn⟩:=HCr.out.lt
            have l_mf_1:K.mf<wr.heap.size+1:=Nat.lt_add_right 1 l_mf
            have l_ms_1:K.ms<wr.heap.size+1:=Nat.lt_add_right 1 l_ms
            have l_mn_1:K.mn<wr.heap.size+1:=Nat.lt_add_right 1 l_mn
            have l_B:=h_lt RB.out
            have l_B_1:w.heap.size<wr.heap.size+1:=Nat.lt_add_right 1 l_B
            have l_c_1:K.c<wr.heap.size+1:=Nat.lt_add_right 1 l_c
            go_upto_region 12 with fail
            refine wp_at (fun W=>Keeps [] wr W∧W.heap[wr.heap.size]? =some (.cells #[.int .i64 kk.kind,.string kk.name,.float .f64 fm3,.slice na3 kk.kids.length nc3,.complex .f64 kk.re kk.im] 58 (0,0))∧W.heap[wr.heap.size+1]? =some (.cells #[.int .i64 fn,.string q] 137 (0,0))) ⟨(by with_reducible repeat (first|exact k0 _ _|refine kA ?_ _|refine kD ?_|refine kS ?_ (by simp)|refine kM ?_ (by simp))),(by simp only [hS,hA,hD,hM,World.size_alloc,World.size_setCell,World.size_drew,size_mset,Nat.add_right_cancel_iff,Nat.left_eq_add,Nat.add_eq_left,Nat.reduceEqDiff,Nat.add_assoc,Nat.reduceAdd,Nat.one_ne_zero,Nat.zero_ne_one,reduceIte,Option.map_some,Obj.put]<;>rfl),(by simp only [hS,hA,hD,hM,World.size_alloc,World.size_setCell,World.size_drew,size_mset,Nat.add_right_cancel_iff,Nat.left_eq_add,Nat.add_eq_left,Nat.reduceEqDiff,Nat.add_assoc,Nat.reduceAdd,Nat.one_ne_zero,Nat.zero_ne_one,reduceIte,Option.map_some,Obj.put]<;>rfl)⟩ ?_
            rintro w51 ⟨Kw51,cw51_Kd,cw51_P⟩
            have n_c_Kd:K.c≠wr.heap.size:=Nat.ne_of_lt l_c
            have n_Kd_c:wr.heap.size≠K.c:=Nat.ne_of_gt l_c
            have n_mf_Kd:K.mf≠wr.heap.size:=Nat.ne_of_lt l_mf
            have n_Kd_mf:wr.heap.size≠K.mf:=Nat.ne_of_gt l_mf
            have n_ms_Kd:K.ms≠wr.heap.size:=Nat.ne_of_lt l_ms
            have n_Kd_ms:wr.heap.size≠K.ms:=Nat.ne_of_gt l_ms
            have n_mn_Kd:K.mn≠wr.heap.size:=Nat.ne_of_lt l_mn
            have n_Kd_mn:wr.heap.size≠K.mn:=Nat.ne_of_gt l_mn
            have n_B_Kd:w.heap.size≠wr.heap.size:=Nat.ne_of_lt l_B
            have n_Kd_B:wr.heap.size≠w.heap.size:=Nat.ne_of_gt l_B
            have o_Kd:w.heap.size≤wr.heap.size:=HSr.out.size
            have off_Kd:Off K T1 (wr.heap.size):=off_new HCr.out (Nat.le_refl _)
            have o0_Kd:K.w0.heap.size≤wr.heap.size:=Nat.le_trans HCr.out.keep.size (Nat.le_refl _)
            have n_c_P:K.c≠wr.heap.size+1:=Nat.ne_of_lt (Nat.lt_add_right 1 l_c)
            have n_P_c:wr.heap.size+1≠K.c:=Nat.ne_of_gt (Nat.lt_add_right 1 l_c)
            have n_mf_P:K.mf≠wr.heap.size+1:=Nat.ne_of_lt (Nat.lt_add_right 1 l_mf)
            have n_P_mf:wr.heap.size+1≠K.mf:=Nat.ne_of_gt (Nat.lt_add_right 1 l_mf)
            have n_ms_P:K.ms≠wr.heap.size+1:=Nat.ne_of_lt (Nat.lt_add_right 1 l_ms)
            have n_P_ms:wr.heap.size+1≠K.ms:=Nat.ne_of_gt (Nat.lt_add_right 1 l_ms)
            have n_mn_P:K.mn≠wr.heap.size+1:=Nat.ne_of_lt (Nat.lt_add_right 1 l_mn)
            have n_P_mn:wr.heap.size+1≠K.mn:=Nat.ne_of_gt (Nat.lt_add_right 1 l_mn)
            have n_B_P:w.heap.size≠wr.heap.size+1:=Nat.ne_of_lt (Nat.lt_add_right 1 l_B)
            have n_P_B:wr.heap.size+1≠w.heap.size:=Nat.ne_of_gt (Nat.lt_add_right 1 l_B)
            have n_Kd_P:wr.heap.size≠wr.heap.size+1:=by simp
            have n_P_Kd:wr.heap.size+1≠wr.heap.size:=by simp
            have o_P:w.heap.size≤wr.heap.size+1:=Nat.le_trans (HSr.out.size) (Nat.le_add_right _ 1)
            have off_P:Off K T1 (wr.heap.size+1):=off_new HCr.out (Nat.le_add_right _ 1)
            have o0_P:K.w0.heap.size≤wr.heap.size+1:=Nat.le_trans HCr.out.keep.size (Nat.le_add_right _ 1)
            have Rw51_B:=Lib.hid (Kw51.at RB.out (by simp))
            have HCw51:=Lib.hid (HCr.out.kp0 Kw51)
            have HSw51:=Lib.hid (HSr.out.loc Kw51 (by simp))
            have Rw51_Kd:=Lib.hid cw51_Kd
            have Rw51_P:=Lib.hid cw51_P
            clear Kw51 cw51_Kd cw51_P l_c l_c_1 l_B l_B_1 l_mf_1 l_ms_1 l_mn_1 l_mf l_ms l_mn RB HCr HSr
            obtain ⟨l_c,xc_0,xc_1,xc_2,xc_3,xc_4,xc_5,xc_6,xc_7,xc_8,xc_9,xc_10,yc_0,yc_1,yc_2,yc_3,yc_4,yc_5,yc_6,yc_7,yc_8,yc_9,yc_10⟩:=cf11 HCw51.out.row
            obtain ⟨-,l_mf,l_ms,l_mn⟩:=HCw51.out.lt
            have l_B:=h_lt Rw51_B.out
            obtain ⟨l_Kd,xKd_0,xKd_1,xKd_2,xKd_3,xKd_4,yKd_0,yKd_1,yKd_2,yKd_3,yKd_4⟩:=cf5 Rw51_Kd.out
            obtain ⟨l_P,xP_0,xP_1,yP_0,yP_1⟩:=cf2 Rw51_P.out
            obtain ⟨i1,hi1,hi2,hi3,hi4⟩:=info106
            have HI:=Lib.hid (And.intro hi1 (And.intro hi2 (And.intro hi3 hi4)))
            clear hi1 hi2 hi3 hi4
            go_cut [] (fun W=>∃T' ua' uc',CK K T' ua' uc' ({st1 with uses:=st1.uses++ [(⟨kk.re,kk.im,noT,false,(fn,q),true,false⟩:Use)]}) W∧CStep K T1 T' w51 W)
            case first=>
              go_region_law (refine step_at (fun W=>Keeps [] w51 W∧W.heap[w51.heap.size]? =some (.cells #[.complex .f64 kk.re kk.im,.int .i64 0,.string ⟨#[]⟩,.bool false,.int .i64 fn,.string q,.bool true,.bool false] 141 (0,0))) ⟨(by with_reducible repeat (first|exact k0 _ _|refine kA ?_ _|refine kD ?_|refine kS ?_ (by simp)|refine kM ?_ (by simp))),(by simp only [heap_set_if,heap_alloc_if,heap_drew,World.size_alloc,World.size_setCell,World.size_drew,reduceIte,Option.map_some,Obj.put]<;>rfl)⟩ ?_;rintro wq ⟨hkq,cG⟩;refine step_appL useL rfl (.tmp 65) (.tmp 70) 90 rfl Tryz.underlying90 HI.out.1 HI.out.2.1 HI.out.2.2.1 HI.out.2.2.2 rfl (by decide) (by decide) rfl rfl (HCw51.out.kp0 hkq).uses (c:= [.complex .f64 kk.re kk.im,.int .i64 0,.string ⟨#[]⟩,.bool false,.int .i64 fn,.string q,.bool true,.bool false]) cG (x:=(⟨kk.re,kk.im,noT,false,(fn,q),true,false⟩:Use)) (S:=fun _=>False) rfl (fun _ h=>h.elim) (fun _ h=>h.elim) (HCw51.out.kp0 hkq).up (HCw51.out.kp0 hkq).keep.size (Nat.le_of_lt HUL.out) ?_;rintro va wa fl hfl hka hown;obtain ⟨ka2,kc2,hva,-⟩:=hown.slice;obtain ⟨kn,hkn⟩:∃k,k=((st1).uses++ [(⟨kk.re,kk.im,noT,false,(fn,q),true,false⟩:Use)]).length:=⟨_,rfl⟩;rw [←hkn] at hva;subst hva;have HKN:=Lib.hid hkn;clear hkn;have r_c:=hka.at (HCw51.out.kp0 hkq).row (fun h=>(HCw51.out.kp0 hkq).ns.1 (hfl _ h));have lw_c:=h_lt r_c;have z0:=cell_of_heap r_c 0;have z1:=cell_of_heap r_c 1;have z2:=cell_of_heap r_c 2;have z3:=cell_of_heap r_c 3;have z4:=cell_of_heap r_c 4;have z5:=cell_of_heap r_c 5;have z6:=cell_of_heap r_c 6;have z7:=cell_of_heap r_c 7;have z8:=cell_of_heap r_c 8;have z9:=cell_of_heap r_c 9;have z10:=cell_of_heap r_c 10;have zf0:=frozen_of_heap r_c 0;have zf1:=frozen_of_heap r_c 1;have zf2:=frozen_of_heap r_c 2;have zf3:=frozen_of_heap r_c 3;have zf4:=frozen_of_heap r_c 4;have zf5:=frozen_of_heap r_c 5;have zf6:=frozen_of_heap r_c 6;have zf7:=frozen_of_heap r_c 7;have zf8:=frozen_of_heap r_c 8;have zf9:=frozen_of_heap r_c 9;have zf10:=frozen_of_heap r_c 10;simp at z0 z1 z2 z3 z4 z5 z6 z7 z8 z9 z10)
              all_goals
                go_wp2_with fail
                go_meet
                case rel=>
                  have hkn:=HKN.out
                  subst hkn
                  exact CK.app hK (CStep.refl K T1 w51) HCw51.out hkq hfl hka hown (by with_reducible repeat (first|exact k0 _ _|refine kA ?_ _|refine kD ?_|refine kS ?_ (by simp)|refine kM ?_ (by simp))) (by simp only [hS,hA,hD,hM,reduceIte,Option.map_some,Obj.put,r_c]<;>rfl)
            case rest=>
              obtain ⟨T52,ua52,uc52,hc,hs⟩:=hcut
              generalize wc=w53 at*
              clear l_c xc_0 xc_1 xc_2 xc_3 xc_4 xc_5 xc_6 xc_7 xc_8 xc_9 xc_10 yc_0 yc_1 yc_2 yc_3 yc_4 yc_5 yc_6 yc_7 yc_8 yc_9 yc_10 l_B l_Kd xKd_0 xKd_1 xKd_2 xKd_3 xKd_4 yKd_0 yKd_1 yKd_2 yKd_3 yKd_4 l_P xP_0 xP_1 yP_0 yP_1 l_mf l_ms l_mn HI
              have off2_B:=hs.off (h_lt Rw51_B.out) off_B
              have Rw53_B:=Lib.hid (hs.at Rw51_B.out off_B)
              have off2_Kd:=hs.off (h_lt Rw51_Kd.out) off_Kd
              have Rw53_Kd:=Lib.hid (hs.at Rw51_Kd.out off_Kd)
              have off2_P:=hs.off (h_lt Rw51_P.out) off_P
              have Rw53_P:=Lib.hid (hs.at Rw51_P.out off_P)
              have off_B':=off2_B
              have off_Kd':=off2_Kd
              have off_P':=off2_P
              have HCw53:=Lib.hid hc
              have HSw53:=Lib.hid (HSw51.out.trans hs)
              clear Rw51_B off_B Rw51_Kd off_Kd Rw51_P off_P HCw51 HSw51 hc hs
              have off_B:=off_B'
              clear off_B' off2_B
              have off_Kd:=off_Kd'
              clear off_Kd' off2_Kd
              have off_P:=off_P'
              clear off_P' off2_P
              obtain ⟨l_c,l_mf,l_ms,l_mn⟩:=HCw53.out.lt
              have l_B:=h_lt Rw53_B.out
              obtain ⟨l_Kd,xKd_0,xKd_1,xKd_2,xKd_3,xKd_4,yKd_0,yKd_1,yKd_2,yKd_3,yKd_4⟩:=cf5 Rw53_Kd.out
              have l_P:=h_lt Rw53_P.out
              go_wp2_with fail
              clear l_c l_B l_Kd xKd_0 xKd_1 xKd_2 xKd_3 xKd_4 yKd_0 yKd_1 yKd_2 yKd_3 yKd_4 l_P l_mf l_ms l_mn
              refine (HREC.out _ _ _ _ hr hkn _ _ _ _ HCw53.out).mono ?_
              rintro r e54 ⟨T54,ua54,uc54,rfl,hc,hs⟩
              have off2_B:=hs.off (h_lt Rw53_B.out) off_B
              have Re54_B:=Lib.hid (hs.at Rw53_B.out off_B)
              have off2_Kd:=hs.off (h_lt Rw53_Kd.out) off_Kd
              have Re54_Kd:=Lib.hid (hs.at Rw53_Kd.out off_Kd)
              have off2_P:=hs.off (h_lt Rw53_P.out) off_P
              have Re54_P:=Lib.hid (hs.at Rw53_P.out off_P)
              have off_B':=off2_B
              have off_Kd':=off2_Kd
              have off_P':=off2_P
              have HCe54:=Lib.hid hc
              have HSe54:=Lib.hid (HSw53.out.trans hs)
              clear Rw53_B off_B Rw53_Kd off_Kd Rw53_P off_P HCw53 HSw53 hc hs
              have off_B:=off_B'
              clear off_B' off2_B
              have off_Kd:=off_Kd'
              clear off_Kd' off2_Kd
              have off_P:=off_P'
              clear off_P' off2_P
              obtain ⟨l_c,l_mf,l_ms,l_mn⟩:=HCe54.out.lt
              have l_B:=h_lt Re54_B.out
              have l_Kd:=h_lt Re54_Kd.out
              have l_P:=h_lt Re54_P.out
              go_wp2_with fail
              go_roundg f
              case measure=>omega
              case rel=>
                exact ⟨k+1,by first|rfl|(simp;done)|(simp;omega),by omega,by omega,_,_,_,_,hcf,HCe54.out,HSe54.out,Re54_B.out,off_B⟩
      · have hke:k=kids.length:=by omega
        subst hke
        rw [List.drop_length] at hcf
        have hst:st1=st':=by cases hd:K.g.funcs[i].params.drop kids.length<;>(rw [hd] at hcf;simpa [callF] using hcf)
        subst hst
        clear hcf
        obtain ⟨l_c,l_mf,l_ms,l_mn⟩:=HCr.out.lt
        go_wp2_with fail
        refine end_at (v:= .tuple #[]) (fun W=>Keeps [] wr W) (by with_reducible repeat (first|exact k0 _ _|refine kA ?_ _|refine kD ?_|refine kS ?_ (by simp)|refine kM ?_ (by simp))) (fun w51 hW=> ?_) rfl (fun w51 hW=> ?_)
        · have Kw51:Keeps [] wr w51:=hW
          simp [results,Tryz.results108,go_sem]
        · have Kw51:Keeps [] wr w51:=hW
          have HCw51:=Lib.hid (HCr.out.kp0 Kw51)
          have HSw51:=Lib.hid (HSr.out.loc Kw51 (by simp))
          clear Kw51 l_c l_mf l_ms l_mn HCr HSr
          exact ⟨_,_,_,rfl,HCw51.out,HSw51.out⟩
end Go.Proofs.YteafcepaolofpaaGreatDoor
