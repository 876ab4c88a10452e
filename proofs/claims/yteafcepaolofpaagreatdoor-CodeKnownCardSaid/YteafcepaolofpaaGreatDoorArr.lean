/- arrays, walked. Made by a program (check.py, walk.py). -/
import Derived.Test.YteafcepaolofpaaGreatDoorKin
import Derived.Test.YteafcepaolofpaaGreatDoorHedL
set_option maxRecDepth 100000
set_option maxHeartbeats 4000000
set_option linter.unusedSimpArgs false
set_option linter.unusedVariables false
set_option linter.unusedSectionVars false
namespace Go.Proofs.YteafcepaolofpaaGreatDoor
open Go.RowKit

theorem step_callG{P:Program}{ops:Array Oper}{o:Oper}{a:Act}{w:World}{K:Act→World→Prop}{Q:Exit→Act→World→Prop}{E:Prop}(hw:Region.wanted o (yielded ops a.tmps)=true){f:FuncId}{vals:Array Value}(c:Call)(_ho:o.op= .call c)
    (hrun:(execOp a.eval o).run P w= .ok (.enter f vals) w) {R:Value→World→Prop} (hc:Calls P f vals w fun e w'=>∃v,e= .returned v∧R v w') (hK:∀v w',R v w'→K (a.put o.dst v) w'):
    if Region.wanted o (yielded ops a.tmps)=true then Oper.wp P o a w K Q else E:=by
  rw [if_pos hw]
  unfold Oper.wp
  rw [hrun,Oper.upon_enter]
  exact hc.mono fun e w' ⟨v,he,hr⟩=>by subst he;exact hK v w' hr
theorem KindW.step{K:CKey}{T T':Nat→Prop}{w w':World}{b:Nat}{f:Thing→Nat}(h:KindW w b f)(hs:CStep K T T' w w')(ho:Off K T b):KindW w' b f:=by
  obtain ⟨es,k,h1,h2⟩:=h;exact ⟨es,k,hs.at h1 ho,h2⟩
theorem faultF_uses(st:NS)(re im:Nat)(e:Int):(faultF st re im e).uses=st.uses:=by unfold faultF;split<;>rfl
def ArrI(K:CKey)(T:Nat→Prop)(ua:Option Addr)(uc n:Nat)(kf:Kinds)(st':NS)(w:World)(kb:Nat)(g:Nat)(j:Value)(W:World):Prop:=
  ∃k:Nat,j= .int .i64 k∧k≤n∧g+k=n+1∧∃st,st.uses.length=n∧arraysF kf (st.uses.drop k) st=some st'∧KindW W kb (fun x=>kof x kf)∧CK K T ua uc st W∧CStep K T T w W

theorem arrays_any{K:CKey}(hK:CFix K){T:Nat→Prop}{ua:Option Addr}{uc:Nat}{st:NS}{w:World}(h:CK K T ua uc st w){kf:Kinds}{st':NS}(hkf:kindsF st=some kf)(hul:st.uses.length≤1000000)(har:arraysF kf st.uses st=some st'):
    Calls Tryz.prog 30 #[.pointer (some ⟨K.c,0,none⟩)] w fun r w'=>∃T' ua' uc',r= .returned (.tuple #[])∧CK K T' ua' uc' (st') w'∧CStep K T T' w w':=by
  have HC0:=Lib.hid h;have HS0:=Lib.hid (CStep.refl K T w);have HK0:=Lib.hid (Keeps.refl [] w);have HKF:=Lib.hid hkf;have HAR:=Lib.hid har
  clear h hkf har
  go_enter Tryz.func30,Tryz.ntmps30
  obtain ⟨l_c,l_mf,l_ms,l_mn⟩:=HC0.out.lt
  go_wp2_with fail
  clear l_c l_mf l_ms l_mn
  refine (kinds_any hK HC0.out HKF.out hul).mono ?_
  rintro r e1 ⟨kb,rfl,hle,hkb,hk⟩
  have HCe1:=Lib.hid (HC0.out.kp0 hk)
  have HSe1:=Lib.hid (HS0.out.loc hk (by simp))
  have HKe1:=Lib.hid (HK0.out.trans hk (by simp))
  have HKB1:=Lib.hid hkb
  have off_kb:=off_new HC0.out hle
  clear hkb
  clear hk HC0 HS0 HK0
  obtain ⟨l_c,xc_0,xc_1,xc_2,xc_3,xc_4,xc_5,xc_6,xc_7,xc_8,xc_9,xc_10,yc_0,yc_1,yc_2,yc_3,yc_4,yc_5,yc_6,yc_7,yc_8,yc_9,yc_10⟩:=cf11 HCe1.out.row
  obtain ⟨-,l_mf,l_ms,l_mn⟩:=HCe1.out.lt
  go_wp2_with fail
  clear l_c xc_0 xc_1 xc_2 xc_3 xc_4 xc_5 xc_6 xc_7 xc_8 xc_9 xc_10 yc_0 yc_1 yc_2 yc_3 yc_4 yc_5 yc_6 yc_7 yc_8 yc_9 yc_10 l_mf l_ms l_mn
  obtain ⟨n,hn⟩:∃x,x=st.uses.length:=⟨_,rfl⟩
  rw [←hn]
  go_loopg [12] (n+1) (fun g j wr=>ArrI K T ua uc n kf st' w kb g j wr)
  case atStart=>exact ⟨0,rfl,Nat.zero_le _,rfl,st,hn.symm,HAR.out,HKB1.out,HCe1.out,HSe1.out⟩
  case round=>
    have hnl:n≤1000000:=hn▸hul
    clear hn hul
    obtain ⟨k,rfl,hk1,hk2,st1,hl,har,hkb,hc,hs⟩:=hrel
    have HCr:=Lib.hid hc;have HKBr:=Lib.hid hkb;have HSr:=Lib.hid hs;have HL:=Lib.hid hl
    clear hc hkb hs
    by_cases hlt:k<n
    · obtain ⟨gu, hgu,q0,q1,q2,q3,q4,q5,q6,q7⟩:=CK.use HCr.out (i:=k) (by rw [HL.out];exact hlt)
      subst hgu
      have lgu:gu<wr.heap.size:=lt_cell q0
      have hlt2:k<st1.uses.length:=by rw [HL.out];exact hlt
      rw [List.drop_eq_getElem_cons hlt2,arraysF] at har
      generalize st1.uses[k]=u at*
      clear hl hlt2
      cases gk with
      |zero=>omega
      | succ f=>
        cases hbad:u.bad with
        | true=>
          rw [hbad,if_pos rfl] at har
          simp only [Option.bind_eq_bind,Option.bind_some,if_true] at har
          have l_kb:=HKBr.out.lt
          obtain ⟨l_c,l_mf,l_ms,l_mn⟩:=HCr.out.lt
          go_wp2_with fail
          refine calls_at (fun W=>Keeps [] wr W∧W.heap[wr.heap.size]? =some (.cells #[.complex .f64 u.re u.im,.int .i64 u.of.1,.string u.of.2,.bool u.array,.int .i64 u.param.1,.string u.param.2,.bool u.kid,.bool true] 141 (0,0))) ⟨(by with_reducible repeat (first|exact k0 _ _|refine kA ?_ _|refine kD ?_|refine kS ?_ (by simp)|refine kM ?_ (by simp))),(by simp only [hS,hA,hD,hM,World.size_setCell,World.size_drew,reduceIte,Option.map_some,Obj.put]<;>rfl)⟩ ?_
          rintro w51 ⟨Kw51,cw51_U⟩
          have n_c_U:K.c≠wr.heap.size:=Nat.ne_of_lt l_c
          have n_U_c:wr.heap.size≠K.c:=Nat.ne_of_gt l_c
          have n_mf_U:K.mf≠wr.heap.size:=Nat.ne_of_lt l_mf
          have n_U_mf:wr.heap.size≠K.mf:=Nat.ne_of_gt l_mf
          have n_ms_U:K.ms≠wr.heap.size:=Nat.ne_of_lt l_ms
          have n_U_ms:wr.heap.size≠K.ms:=Nat.ne_of_gt l_ms
          have n_mn_U:K.mn≠wr.heap.size:=Nat.ne_of_lt l_mn
          have n_U_mn:wr.heap.size≠K.mn:=Nat.ne_of_gt l_mn
          have o_U:w.heap.size≤wr.heap.size:=HSr.out.size
          have off_U:Off K T (wr.heap.size):=off_new HCr.out (Nat.le_refl _)
          have o0_U:K.w0.heap.size≤wr.heap.size:=Nat.le_trans HCr.out.keep.size (Nat.le_refl _)
          have HCw51:=Lib.hid (HCr.out.kp0 Kw51)
          have HSw51:=Lib.hid (HSr.out.loc Kw51 (by simp))
          have HKkbw51:=Lib.hid (HKBr.out.keep Kw51 (by simp))
          have Rw51_U:=Lib.hid cw51_U
          clear Kw51 cw51_U l_c l_mf l_ms l_mn l_kb HCr HSr HKBr
          refine (fault_same hK HCw51.out u.re u.im 30).mono ?_
          rintro r e52 ⟨rfl,hc,hs⟩
          have off2_U:=hs.off (h_lt Rw51_U.out) off_U
          have Re52_U:=Lib.hid (hs.at Rw51_U.out off_U)
          have off_U':=off2_U
          have HCe52:=Lib.hid hc
          have HSe52:=Lib.hid (HSw51.out.trans hs)
          have HKkbe52:=Lib.hid (HKkbw51.out.step hs off_kb)
          clear Rw51_U off_U HCw51 HSw51 hc hs HKkbw51
          have off_U:=off_U'
          clear off_U' off2_U
          have l_kb:=HKkbe52.out.lt
          obtain ⟨l_c,l_mf,l_ms,l_mn⟩:=HCe52.out.lt
          have l_U:=h_lt Re52_U.out
          go_wp2_with fail
          go_roundg f
          case measure=>omega
          case rel=>
            exact ⟨k+1,by first|rfl|(simp;done)|(simp;omega),by omega,by omega,(faultF st1 u.re u.im 30),by rw [faultF_uses];exact HL.out,by rw [faultF_uses];exact har,HKkbe52.out,HCe52.out,HSe52.out⟩
        | false =>
          rw [hbad,if_neg (by simp)] at har
          cases hkid:u.kid with
          | true=>
            rw [hkid,if_pos rfl] at har
            simp only [Option.bind_eq_bind,Option.bind_eq_some_iff] at har
            obtain ⟨b,⟨r,hrt,hb⟩,har⟩:=har
            obtain rfl:(kof r kf==2)=b:=by simpa using hb
            clear hb
            obtain ⟨kn,hkn⟩:∃x,x=kof r kf:=⟨_,rfl⟩
            have HKN:=Lib.hid hkn
            rw [←hkn] at har
            clear hkn
            have HRT:=Lib.hid hrt
            clear hrt
            by_cases h2:kn=2
            · have d2:((kn:Int)==2)=true:=by simp [h2]
              have d3:(kn==2)=true:=by simp [h2]
              rw [d3] at har
              have l_kb:=HKBr.out.lt
              obtain ⟨l_c,l_mf,l_ms,l_mn⟩:=HCr.out.lt
              go_wp2_with fail
              refine calls_at (fun W=>Keeps [] wr W∧W.heap[wr.heap.size]? =some (.cells #[.complex .f64 u.re u.im,.int .i64 u.of.1,.string u.of.2,.bool u.array,.int .i64 u.param.1,.string u.param.2,.bool true,.bool false] 141 (0,0))) ⟨(by with_reducible repeat (first|exact k0 _ _|refine kA ?_ _|refine kD ?_|refine kS ?_ (by simp)|refine kM ?_ (by simp))),(by simp only [hS,hA,hD,hM,World.size_setCell,World.size_drew,reduceIte,Option.map_some,Obj.put]<;>rfl)⟩ ?_
              rintro w51 ⟨Kw51,cw51_U⟩
              have n_c_U:K.c≠wr.heap.size:=Nat.ne_of_lt l_c
              have n_U_c:wr.heap.size≠K.c:=Nat.ne_of_gt l_c
              have n_mf_U:K.mf≠wr.heap.size:=Nat.ne_of_lt l_mf
              have n_U_mf:wr.heap.size≠K.mf:=Nat.ne_of_gt l_mf
              have n_ms_U:K.ms≠wr.heap.size:=Nat.ne_of_lt l_ms
              have n_U_ms:wr.heap.size≠K.ms:=Nat.ne_of_gt l_ms
              have n_mn_U:K.mn≠wr.heap.size:=Nat.ne_of_lt l_mn
              have n_U_mn:wr.heap.size≠K.mn:=Nat.ne_of_gt l_mn
              have o_U:w.heap.size≤wr.heap.size:=HSr.out.size
              have off_U:Off K T (wr.heap.size):=off_new HCr.out (Nat.le_refl _)
              have o0_U:K.w0.heap.size≤wr.heap.size:=Nat.le_trans HCr.out.keep.size (Nat.le_refl _)
              have HCw51:=Lib.hid (HCr.out.kp0 Kw51)
              have HSw51:=Lib.hid (HSr.out.loc Kw51 (by simp))
              have HKkbw51:=Lib.hid (HKBr.out.keep Kw51 (by simp))
              have Rw51_U:=Lib.hid cw51_U
              clear Kw51 cw51_U l_c l_mf l_ms l_mn l_kb HCr HSr HKBr
              refine (root_any HCw51.out HRT.out).mono ?_
              rintro r e52 ⟨rfl,hk⟩
              have Re52_U:=Lib.hid (hk.at Rw51_U.out (by simp))
              have HCe52:=Lib.hid (HCw51.out.kp0 hk)
              have HSe52:=Lib.hid (HSw51.out.loc hk (by simp))
              have HKkbe52:=Lib.hid (HKkbw51.out.keep hk (by simp))
              clear hk Rw51_U HCw51 HSw51 HKkbw51
              have l_kb:=HKkbe52.out.lt
              obtain ⟨l_c,l_mf,l_ms,l_mn⟩:=HCe52.out.lt
              obtain ⟨l_U,xU_0,xU_1,xU_2,xU_3,xU_4,xU_5,xU_6,xU_7,yU_0,yU_1,yU_2,yU_3,yU_4,yU_5,yU_6,yU_7⟩:=cf8 Re52_U.out
              have hlk2:=HKkbe52.out.look r (n:=kn) HKN.out
              go_wp2_with fail
              clear l_c l_U xU_0 xU_1 xU_2 xU_3 xU_4 xU_5 xU_6 xU_7 yU_0 yU_1 yU_2 yU_3 yU_4 yU_5 yU_6 yU_7 l_mf l_ms l_mn l_kb
              refine (fault_same hK HCe52.out u.re u.im 30).mono ?_
              rintro r e53 ⟨rfl,hc,hs⟩
              have off2_U:=hs.off (h_lt Re52_U.out) off_U
              have Re53_U:=Lib.hid (hs.at Re52_U.out off_U)
              have off_U':=off2_U
              have HCe53:=Lib.hid hc
              have HSe53:=Lib.hid (HSe52.out.trans hs)
              have HKkbe53:=Lib.hid (HKkbe52.out.step hs off_kb)
              clear Re52_U off_U HCe52 HSe52 hc hs HKkbe52
              have off_U:=off_U'
              clear off_U' off2_U
              have l_kb:=HKkbe53.out.lt
              obtain ⟨l_c,l_mf,l_ms,l_mn⟩:=HCe53.out.lt
              have l_U:=h_lt Re53_U.out
              go_wp2_with fail
              go_roundg f
              case measure=>omega
              case rel=>
                exact ⟨k+1,by first|rfl|(simp;done)|(simp;omega),by omega,by omega,(faultF st1 u.re u.im 30),by rw [faultF_uses];exact HL.out,by rw [faultF_uses];exact har,HKkbe53.out,HCe53.out,HSe53.out⟩
            · have d2:((kn:Int)==2)=false:=by simp;omega
              have d3:(kn==2)=false:=by simp [h2]
              rw [d3] at har
              have l_kb:=HKBr.out.lt
              obtain ⟨l_c,l_mf,l_ms,l_mn⟩:=HCr.out.lt
              go_wp2_with fail
              refine calls_at (fun W=>Keeps [] wr W∧W.heap[wr.heap.size]? =some (.cells #[.complex .f64 u.re u.im,.int .i64 u.of.1,.string u.of.2,.bool u.array,.int .i64 u.param.1,.string u.param.2,.bool true,.bool false] 141 (0,0))) ⟨(by with_reducible repeat (first|exact k0 _ _|refine kA ?_ _|refine kD ?_|refine kS ?_ (by simp)|refine kM ?_ (by simp))),(by simp only [hS,hA,hD,hM,World.size_setCell,World.size_drew,reduceIte,Option.map_some,Obj.put]<;>rfl)⟩ ?_
              rintro w51 ⟨Kw51,cw51_U⟩
              have n_c_U:K.c≠wr.heap.size:=Nat.ne_of_lt l_c
              have n_U_c:wr.heap.size≠K.c:=Nat.ne_of_gt l_c
              have n_mf_U:K.mf≠wr.heap.size:=Nat.ne_of_lt l_mf
              have n_U_mf:wr.heap.size≠K.mf:=Nat.ne_of_gt l_mf
              have n_ms_U:K.ms≠wr.heap.size:=Nat.ne_of_lt l_ms
              have n_U_ms:wr.heap.size≠K.ms:=Nat.ne_of_gt l_ms
              have n_mn_U:K.mn≠wr.heap.size:=Nat.ne_of_lt l_mn
              have n_U_mn:wr.heap.size≠K.mn:=Nat.ne_of_gt l_mn
              have o_U:w.heap.size≤wr.heap.size:=HSr.out.size
              have off_U:Off K T (wr.heap.size):=off_new HCr.out (Nat.le_refl _)
              have o0_U:K.w0.heap.size≤wr.heap.size:=Nat.le_trans HCr.out.keep.size (Nat.le_refl _)
              have HCw51:=Lib.hid (HCr.out.kp0 Kw51)
              have HSw51:=Lib.hid (HSr.out.loc Kw51 (by simp))
              have HKkbw51:=Lib.hid (HKBr.out.keep Kw51 (by simp))
              have Rw51_U:=Lib.hid cw51_U
              clear Kw51 cw51_U l_c l_mf l_ms l_mn l_kb HCr HSr HKBr
              refine (root_any HCw51.out HRT.out).mono ?_
              rintro r e52 ⟨rfl,hk⟩
              have Re52_U:=Lib.hid (hk.at Rw51_U.out (by simp))
              have HCe52:=Lib.hid (HCw51.out.kp0 hk)
              have HSe52:=Lib.hid (HSw51.out.loc hk (by simp))
              have HKkbe52:=Lib.hid (HKkbw51.out.keep hk (by simp))
              clear hk Rw51_U HCw51 HSw51 HKkbw51
              have l_kb:=HKkbe52.out.lt
              obtain ⟨l_c,l_mf,l_ms,l_mn⟩:=HCe52.out.lt
              obtain ⟨l_U,xU_0,xU_1,xU_2,xU_3,xU_4,xU_5,xU_6,xU_7,yU_0,yU_1,yU_2,yU_3,yU_4,yU_5,yU_6,yU_7⟩:=cf8 Re52_U.out
              have hlk2:=HKkbe52.out.look r (n:=kn) HKN.out
              go_upto_region 6 with fail
              go_cut [16] (fun s16 W=>s16= .bool false∧Keeps [] e52 W)
              case first=>
                go_region
                all_goals
                  go_wp2_with fail
                  go_meet
                  case rel=>exact ⟨rfl,(by with_reducible repeat (first|exact k0 _ _|refine kA ?_ _|refine kD ?_|refine kS ?_ (by simp)|refine kM ?_ (by simp)))⟩
              case rest=>
                obtain ⟨rfl,hk⟩:=hcut
                generalize wc=w53 at*
                have Rw53_U:=Lib.hid (hk.at Re52_U.out (by simp))
                have HCw53:=Lib.hid (HCe52.out.kp0 hk)
                have HSw53:=Lib.hid (HSe52.out.loc hk (by simp))
                have HKkbw53:=Lib.hid (HKkbe52.out.keep hk (by simp))
                clear hk Re52_U HCe52 HSe52 HKkbe52 l_c l_U xU_0 xU_1 xU_2 xU_3 xU_4 xU_5 xU_6 xU_7 yU_0 yU_1 yU_2 yU_3 yU_4 yU_5 yU_6 yU_7 l_mf l_ms l_mn l_kb
                have l_kb:=HKkbw53.out.lt
                obtain ⟨l_c,l_mf,l_ms,l_mn⟩:=HCw53.out.lt
                have l_U:=h_lt Rw53_U.out
                go_wp2_with fail
                go_roundg f
                case measure=>omega
                case rel=>
                  exact ⟨k+1,by first|rfl|(simp;done)|(simp;omega),by omega,by omega,st1,HL.out,har,HKkbw53.out,HCw53.out,HSw53.out⟩
          | false =>
            rw [hkid,if_neg (by simp)] at har
            simp only [Option.bind_eq_bind,Option.bind_eq_some_iff] at har
            obtain ⟨b,⟨r,hrt,hb⟩,har⟩:=har
            obtain rfl:((kof r kf==2) !=u.array)=b:=by simpa using hb
            clear hb
            obtain ⟨kn,hkn⟩:∃x,x=kof r kf:=⟨_,rfl⟩
            have HKN:=Lib.hid hkn
            rw [←hkn] at har
            clear hkn
            have HRT:=Lib.hid hrt
            clear hrt
            cases harr:u.array with
            | true=>
              rw [harr] at har
              by_cases h2:kn=2
              · have d2:((kn:Int)==2)=true:=by simp [h2]
                have d3:(kn==2)=true:=by simp [h2]
                rw [d3] at har
                have l_kb:=HKBr.out.lt
                obtain ⟨l_c,l_mf,l_ms,l_mn⟩:=HCr.out.lt
                go_upto_region 6 with fail
                refine wp_at (fun W=>Keeps [] wr W∧W.heap[wr.heap.size]? =some (.cells #[.complex .f64 u.re u.im,.int .i64 u.of.1,.string u.of.2,.bool true,.int .i64 u.param.1,.string u.param.2,.bool false,.bool false] 141 (0,0))) ⟨(by with_reducible repeat (first|exact k0 _ _|refine kA ?_ _|refine kD ?_|refine kS ?_ (by simp)|refine kM ?_ (by simp))),(by simp only [hS,hA,hD,hM,World.size_setCell,World.size_drew,reduceIte,Option.map_some,Obj.put]<;>rfl)⟩ ?_
                rintro w51 ⟨Kw51,cw51_U⟩
                have n_c_U:K.c≠wr.heap.size:=Nat.ne_of_lt l_c
                have n_U_c:wr.heap.size≠K.c:=Nat.ne_of_gt l_c
                have n_mf_U:K.mf≠wr.heap.size:=Nat.ne_of_lt l_mf
                have n_U_mf:wr.heap.size≠K.mf:=Nat.ne_of_gt l_mf
                have n_ms_U:K.ms≠wr.heap.size:=Nat.ne_of_lt l_ms
                have n_U_ms:wr.heap.size≠K.ms:=Nat.ne_of_gt l_ms
                have n_mn_U:K.mn≠wr.heap.size:=Nat.ne_of_lt l_mn
                have n_U_mn:wr.heap.size≠K.mn:=Nat.ne_of_gt l_mn
                have o_U:w.heap.size≤wr.heap.size:=HSr.out.size
                have off_U:Off K T (wr.heap.size):=off_new HCr.out (Nat.le_refl _)
                have o0_U:K.w0.heap.size≤wr.heap.size:=Nat.le_trans HCr.out.keep.size (Nat.le_refl _)
                have HCw51:=Lib.hid (HCr.out.kp0 Kw51)
                have HSw51:=Lib.hid (HSr.out.loc Kw51 (by simp))
                have HKkbw51:=Lib.hid (HKBr.out.keep Kw51 (by simp))
                have Rw51_U:=Lib.hid cw51_U
                clear Kw51 cw51_U l_c l_mf l_ms l_mn l_kb HCr HSr HKBr
                have l_kb:=HKkbw51.out.lt
                obtain ⟨l_c,l_mf,l_ms,l_mn⟩:=HCw51.out.lt
                obtain ⟨l_U,xU_0,xU_1,xU_2,xU_3,xU_4,xU_5,xU_6,xU_7,yU_0,yU_1,yU_2,yU_3,yU_4,yU_5,yU_6,yU_7⟩:=cf8 Rw51_U.out
                have HRF:=Lib.hid (root_at HCw51.out HRT.out)
                go_cut [16] (fun s0 W=>s0= .bool false∧Keeps [] w51 W)
                case first=>
                  go_region_law (refine step_at (fun W=>Keeps [] w51 W) (by with_reducible repeat (first|exact k0 _ _|refine kA ?_ _|refine kD ?_|refine kS ?_ (by simp)|refine kM ?_ (by simp))) ?_;rintro wq hq;refine step_callG (f:=68) (vals:= #[.pointer (some ⟨K.c,0,none⟩),.agg #[.int .i64 u.of.1,.string u.of.2]]) (by first|rfl|simp [Region.wanted,yielded]) _ rfl (by kernel_rfl) (HRF.out _ hq) ?_;rintro v u_ ⟨rfl,hk0⟩;have hku:=hq.trans hk0 (by simp);have r_U:=hku.at Rw51_U.out (by simp);have lr_U:=h_lt r_U;have z0:=cell_of_heap r_U 0;have z1:=cell_of_heap r_U 1;have z2:=cell_of_heap r_U 2;have z3:=cell_of_heap r_U 3;have z4:=cell_of_heap r_U 4;have z5:=cell_of_heap r_U 5;have z6:=cell_of_heap r_U 6;have z7:=cell_of_heap r_U 7;simp at z0 z1 z2 z3 z4 z5 z6 z7;have hlk3:=(HKkbw51.out.keep hku (by simp)).look r (n:=kn) HKN.out)
                  all_goals
                    go_wp2_with fail
                    go_meet
                    case rel=>exact ⟨rfl,hku.trans (fp':= []) (by with_reducible repeat (first|exact k0 _ _|refine kA ?_ _|refine kD ?_|refine kS ?_ (by simp)|refine kM ?_ (by simp))) (by simp)⟩
                case rest=>
                  obtain ⟨rfl,hk⟩:=hcut
                  generalize wc=w52 at*
                  have Rw52_U:=Lib.hid (hk.at Rw51_U.out (by simp))
                  have HCw52:=Lib.hid (HCw51.out.kp0 hk)
                  have HSw52:=Lib.hid (HSw51.out.loc hk (by simp))
                  have HKkbw52:=Lib.hid (HKkbw51.out.keep hk (by simp))
                  clear hk HRF Rw51_U HCw51 HSw51 HKkbw51 l_c l_U xU_0 xU_1 xU_2 xU_3 xU_4 xU_5 xU_6 xU_7 yU_0 yU_1 yU_2 yU_3 yU_4 yU_5 yU_6 yU_7 l_mf l_ms l_mn l_kb
                  have l_kb:=HKkbw52.out.lt
                  obtain ⟨l_c,l_mf,l_ms,l_mn⟩:=HCw52.out.lt
                  have l_U:=h_lt Rw52_U.out
                  go_wp2_with fail
                  go_roundg f
                  case measure=>omega
                  case rel=>
                    exact ⟨k+1,by first|rfl|(simp;done)|(simp;omega),by omega,by omega,st1,HL.out,har,HKkbw52.out,HCw52.out,HSw52.out⟩
              · have d2:((kn:Int)==2)=false:=by simp;omega
                have d3:(kn==2)=false:=by simp [h2]
                rw [d3] at har
                have l_kb:=HKBr.out.lt
                obtain ⟨l_c,l_mf,l_ms,l_mn⟩:=HCr.out.lt
                go_upto_region 6 with fail
                refine wp_at (fun W=>Keeps [] wr W∧W.heap[wr.heap.size]? =some (.cells #[.complex .f64 u.re u.im,.int .i64 u.of.1,.string u.of.2,.bool true,.int .i64 u.param.1,.string u.param.2,.bool false,.bool false] 141 (0,0))) ⟨(by with_reducible repeat (first|exact k0 _ _|refine kA ?_ _|refine kD ?_|refine kS ?_ (by simp)|refine kM ?_ (by simp))),(by simp only [hS,hA,hD,hM,World.size_setCell,World.size_drew,reduceIte,Option.map_some,Obj.put]<;>rfl)⟩ ?_
                rintro w51 ⟨Kw51,cw51_U⟩
                have n_c_U:K.c≠wr.heap.size:=Nat.ne_of_lt l_c
                have n_U_c:wr.heap.size≠K.c:=Nat.ne_of_gt l_c
                have n_mf_U:K.mf≠wr.heap.size:=Nat.ne_of_lt l_mf
                have n_U_mf:wr.heap.size≠K.mf:=Nat.ne_of_gt l_mf
                have n_ms_U:K.ms≠wr.heap.size:=Nat.ne_of_lt l_ms
                have n_U_ms:wr.heap.size≠K.ms:=Nat.ne_of_gt l_ms
                have n_mn_U:K.mn≠wr.heap.size:=Nat.ne_of_lt l_mn
                have n_U_mn:wr.heap.size≠K.mn:=Nat.ne_of_gt l_mn
                have o_U:w.heap.size≤wr.heap.size:=HSr.out.size
                have off_U:Off K T (wr.heap.size):=off_new HCr.out (Nat.le_refl _)
                have o0_U:K.w0.heap.size≤wr.heap.size:=Nat.le_trans HCr.out.keep.size (Nat.le_refl _)
                have HCw51:=Lib.hid (HCr.out.kp0 Kw51)
                have HSw51:=Lib.hid (HSr.out.loc Kw51 (by simp))
                have HKkbw51:=Lib.hid (HKBr.out.keep Kw51 (by simp))
                have Rw51_U:=Lib.hid cw51_U
                clear Kw51 cw51_U l_c l_mf l_ms l_mn l_kb HCr HSr HKBr
                have l_kb:=HKkbw51.out.lt
                obtain ⟨l_c,l_mf,l_ms,l_mn⟩:=HCw51.out.lt
                obtain ⟨l_U,xU_0,xU_1,xU_2,xU_3,xU_4,xU_5,xU_6,xU_7,yU_0,yU_1,yU_2,yU_3,yU_4,yU_5,yU_6,yU_7⟩:=cf8 Rw51_U.out
                have HRF:=Lib.hid (root_at HCw51.out HRT.out)
                go_cut [16] (fun s0 W=>s0= .bool true∧Keeps [] w51 W)
                case first=>
                  go_region_law (refine step_at (fun W=>Keeps [] w51 W) (by with_reducible repeat (first|exact k0 _ _|refine kA ?_ _|refine kD ?_|refine kS ?_ (by simp)|refine kM ?_ (by simp))) ?_;rintro wq hq;refine step_callG (f:=68) (vals:= #[.pointer (some ⟨K.c,0,none⟩),.agg #[.int .i64 u.of.1,.string u.of.2]]) (by first|rfl|simp [Region.wanted,yielded]) _ rfl (by kernel_rfl) (HRF.out _ hq) ?_;rintro v u_ ⟨rfl,hk0⟩;have hku:=hq.trans hk0 (by simp);have r_U:=hku.at Rw51_U.out (by simp);have lr_U:=h_lt r_U;have z0:=cell_of_heap r_U 0;have z1:=cell_of_heap r_U 1;have z2:=cell_of_heap r_U 2;have z3:=cell_of_heap r_U 3;have z4:=cell_of_heap r_U 4;have z5:=cell_of_heap r_U 5;have z6:=cell_of_heap r_U 6;have z7:=cell_of_heap r_U 7;simp at z0 z1 z2 z3 z4 z5 z6 z7;have hlk3:=(HKkbw51.out.keep hku (by simp)).look r (n:=kn) HKN.out)
                  all_goals
                    go_wp2_with fail
                    go_meet
                    case rel=>exact ⟨rfl,hku.trans (fp':= []) (by with_reducible repeat (first|exact k0 _ _|refine kA ?_ _|refine kD ?_|refine kS ?_ (by simp)|refine kM ?_ (by simp))) (by simp)⟩
                case rest=>
                  obtain ⟨rfl,hk⟩:=hcut
                  generalize wc=w52 at*
                  have Rw52_U:=Lib.hid (hk.at Rw51_U.out (by simp))
                  have HCw52:=Lib.hid (HCw51.out.kp0 hk)
                  have HSw52:=Lib.hid (HSw51.out.loc hk (by simp))
                  have HKkbw52:=Lib.hid (HKkbw51.out.keep hk (by simp))
                  clear hk HRF Rw51_U HCw51 HSw51 HKkbw51 l_c l_U xU_0 xU_1 xU_2 xU_3 xU_4 xU_5 xU_6 xU_7 yU_0 yU_1 yU_2 yU_3 yU_4 yU_5 yU_6 yU_7 l_mf l_ms l_mn l_kb
                  have l_kb:=HKkbw52.out.lt
                  obtain ⟨l_c,l_mf,l_ms,l_mn⟩:=HCw52.out.lt
                  obtain ⟨l_U,xU_0,xU_1,xU_2,xU_3,xU_4,xU_5,xU_6,xU_7,yU_0,yU_1,yU_2,yU_3,yU_4,yU_5,yU_6,yU_7⟩:=cf8 Rw52_U.out
                  go_wp2_with fail
                  clear l_c l_U xU_0 xU_1 xU_2 xU_3 xU_4 xU_5 xU_6 xU_7 yU_0 yU_1 yU_2 yU_3 yU_4 yU_5 yU_6 yU_7 l_mf l_ms l_mn l_kb
                  refine (fault_same hK HCw52.out u.re u.im 30).mono ?_
                  rintro r e53 ⟨rfl,hc,hs⟩
                  have off2_U:=hs.off (h_lt Rw52_U.out) off_U
                  have Re53_U:=Lib.hid (hs.at Rw52_U.out off_U)
                  have off_U':=off2_U
                  have HCe53:=Lib.hid hc
                  have HSe53:=Lib.hid (HSw52.out.trans hs)
                  have HKkbe53:=Lib.hid (HKkbw52.out.step hs off_kb)
                  clear Rw52_U off_U HCw52 HSw52 hc hs HKkbw52
                  have off_U:=off_U'
                  clear off_U' off2_U
                  have l_kb:=HKkbe53.out.lt
                  obtain ⟨l_c,l_mf,l_ms,l_mn⟩:=HCe53.out.lt
                  have l_U:=h_lt Re53_U.out
                  go_wp2_with fail
                  go_roundg f
                  case measure=>omega
                  case rel=>
                    exact ⟨k+1,by first|rfl|(simp;done)|(simp;omega),by omega,by omega,(faultF st1 u.re u.im 30),by rw [faultF_uses];exact HL.out,by rw [faultF_uses];exact har,HKkbe53.out,HCe53.out,HSe53.out⟩
            | false =>
              rw [harr] at har
              by_cases h2:kn=2
              · have d2:((kn:Int)==2)=true:=by simp [h2]
                have d3:(kn==2)=true:=by simp [h2]
                rw [d3] at har
                have l_kb:=HKBr.out.lt
                obtain ⟨l_c,l_mf,l_ms,l_mn⟩:=HCr.out.lt
                go_upto_region 6 with fail
                refine wp_at (fun W=>Keeps [] wr W∧W.heap[wr.heap.size]? =some (.cells #[.complex .f64 u.re u.im,.int .i64 u.of.1,.string u.of.2,.bool false,.int .i64 u.param.1,.string u.param.2,.bool false,.bool false] 141 (0,0))) ⟨(by with_reducible repeat (first|exact k0 _ _|refine kA ?_ _|refine kD ?_|refine kS ?_ (by simp)|refine kM ?_ (by simp))),(by simp only [hS,hA,hD,hM,World.size_setCell,World.size_drew,reduceIte,Option.map_some,Obj.put]<;>rfl)⟩ ?_
                rintro w51 ⟨Kw51,cw51_U⟩
                have n_c_U:K.c≠wr.heap.size:=Nat.ne_of_lt l_c
                have n_U_c:wr.heap.size≠K.c:=Nat.ne_of_gt l_c
                have n_mf_U:K.mf≠wr.heap.size:=Nat.ne_of_lt l_mf
                have n_U_mf:wr.heap.size≠K.mf:=Nat.ne_of_gt l_mf
                have n_ms_U:K.ms≠wr.heap.size:=Nat.ne_of_lt l_ms
                have n_U_ms:wr.heap.size≠K.ms:=Nat.ne_of_gt l_ms
                have n_mn_U:K.mn≠wr.heap.size:=Nat.ne_of_lt l_mn
                have n_U_mn:wr.heap.size≠K.mn:=Nat.ne_of_gt l_mn
                have o_U:w.heap.size≤wr.heap.size:=HSr.out.size
                have off_U:Off K T (wr.heap.size):=off_new HCr.out (Nat.le_refl _)
                have o0_U:K.w0.heap.size≤wr.heap.size:=Nat.le_trans HCr.out.keep.size (Nat.le_refl _)
                have HCw51:=Lib.hid (HCr.out.kp0 Kw51)
                have HSw51:=Lib.hid (HSr.out.loc Kw51 (by simp))
                have HKkbw51:=Lib.hid (HKBr.out.keep Kw51 (by simp))
                have Rw51_U:=Lib.hid cw51_U
                clear Kw51 cw51_U l_c l_mf l_ms l_mn l_kb HCr HSr HKBr
                have l_kb:=HKkbw51.out.lt
                obtain ⟨l_c,l_mf,l_ms,l_mn⟩:=HCw51.out.lt
                obtain ⟨l_U,xU_0,xU_1,xU_2,xU_3,xU_4,xU_5,xU_6,xU_7,yU_0,yU_1,yU_2,yU_3,yU_4,yU_5,yU_6,yU_7⟩:=cf8 Rw51_U.out
                have HRF:=Lib.hid (root_at HCw51.out HRT.out)
                go_cut [16] (fun s0 W=>s0= .bool true∧Keeps [] w51 W)
                case first=>
                  go_region_law (refine step_at (fun W=>Keeps [] w51 W) (by with_reducible repeat (first|exact k0 _ _|refine kA ?_ _|refine kD ?_|refine kS ?_ (by simp)|refine kM ?_ (by simp))) ?_;rintro wq hq;refine step_callG (f:=68) (vals:= #[.pointer (some ⟨K.c,0,none⟩),.agg #[.int .i64 u.of.1,.string u.of.2]]) (by first|rfl|simp [Region.wanted,yielded]) _ rfl (by kernel_rfl) (HRF.out _ hq) ?_;rintro v u_ ⟨rfl,hk0⟩;have hku:=hq.trans hk0 (by simp);have r_U:=hku.at Rw51_U.out (by simp);have lr_U:=h_lt r_U;have z0:=cell_of_heap r_U 0;have z1:=cell_of_heap r_U 1;have z2:=cell_of_heap r_U 2;have z3:=cell_of_heap r_U 3;have z4:=cell_of_heap r_U 4;have z5:=cell_of_heap r_U 5;have z6:=cell_of_heap r_U 6;have z7:=cell_of_heap r_U 7;simp at z0 z1 z2 z3 z4 z5 z6 z7;have hlk3:=(HKkbw51.out.keep hku (by simp)).look r (n:=kn) HKN.out)
                  all_goals
                    go_wp2_with fail
                    go_meet
                    case rel=>exact ⟨rfl,hku.trans (fp':= []) (by with_reducible repeat (first|exact k0 _ _|refine kA ?_ _|refine kD ?_|refine kS ?_ (by simp)|refine kM ?_ (by simp))) (by simp)⟩
                case rest=>
                  obtain ⟨rfl,hk⟩:=hcut
                  generalize wc=w52 at*
                  have Rw52_U:=Lib.hid (hk.at Rw51_U.out (by simp))
                  have HCw52:=Lib.hid (HCw51.out.kp0 hk)
                  have HSw52:=Lib.hid (HSw51.out.loc hk (by simp))
                  have HKkbw52:=Lib.hid (HKkbw51.out.keep hk (by simp))
                  clear hk HRF Rw51_U HCw51 HSw51 HKkbw51 l_c l_U xU_0 xU_1 xU_2 xU_3 xU_4 xU_5 xU_6 xU_7 yU_0 yU_1 yU_2 yU_3 yU_4 yU_5 yU_6 yU_7 l_mf l_ms l_mn l_kb
                  have l_kb:=HKkbw52.out.lt
                  obtain ⟨l_c,l_mf,l_ms,l_mn⟩:=HCw52.out.lt
                  obtain ⟨l_U,xU_0,xU_1,xU_2,xU_3,xU_4,xU_5,xU_6,xU_7,yU_0,yU_1,yU_2,yU_3,yU_4,yU_5,yU_6,yU_7⟩:=cf8 Rw52_U.out
                  go_wp2_with fail
                  clear l_c l_U xU_0 xU_1 xU_2 xU_3 xU_4 xU_5 xU_6 xU_7 yU_0 yU_1 yU_2 yU_3 yU_4 yU_5 yU_6 yU_7 l_mf l_ms l_mn l_kb
                  refine (fault_same hK HCw52.out u.re u.im 30).mono ?_
                  rintro r e53 ⟨rfl,hc,hs⟩
                  have off2_U:=hs.off (h_lt Rw52_U.out) off_U
                  have Re53_U:=Lib.hid (hs.at Rw52_U.out off_U)
                  have off_U':=off2_U
                  have HCe53:=Lib.hid hc
                  have HSe53:=Lib.hid (HSw52.out.trans hs)
                  have HKkbe53:=Lib.hid (HKkbw52.out.step hs off_kb)
                  clear Rw52_U off_U HCw52 HSw52 hc hs HKkbw52
                  have off_U:=off_U'
                  clear off_U' off2_U
                  have l_kb:=HKkbe53.out.lt
                  obtain ⟨l_c,l_mf,l_ms,l_mn⟩:=HCe53.out.lt
                  have l_U:=h_lt Re53_U.out
                  go_wp2_with fail
                  go_roundg f
                  case measure=>omega
                  case rel=>
                    exact ⟨k+1,by first|rfl|(simp;done)|(simp;omega),by omega,by omega,(faultF st1 u.re u.im 30),by rw [faultF_uses];exact HL.out,by rw [faultF_uses];exact har,HKkbe53.out,HCe53.out,HSe53.out⟩
              · have d2:((kn:Int)==2)=false:=by simp;omega
                have d3:(kn==2)=false:=by simp [h2]
                rw [d3] at har
                have l_kb:=HKBr.out.lt
                obtain ⟨l_c,l_mf,l_ms,l_mn⟩:=HCr.out.lt
                go_upto_region 6 with fail
                refine wp_at (fun W=>Keeps [] wr W∧W.heap[wr.heap.size]? =some (.cells #[.complex .f64 u.re u.im,.int .i64 u.of.1,.string u.of.2,.bool false,.int .i64 u.param.1,.string u.param.2,.bool false,.bool false] 141 (0,0))) ⟨(by with_reducible repeat (first|exact k0 _ _|refine kA ?_ _|refine kD ?_|refine kS ?_ (by simp)|refine kM ?_ (by simp))),(by simp only [hS,hA,hD,hM,World.size_setCell,World.size_drew,reduceIte,Option.map_some,Obj.put]<;>rfl)⟩ ?_
                rintro w51 ⟨Kw51,cw51_U⟩
                have n_c_U:K.c≠wr.heap.size:=Nat.ne_of_lt l_c
                have n_U_c:wr.heap.size≠K.c:=Nat.ne_of_gt l_c
                have n_mf_U:K.mf≠wr.heap.size:=Nat.ne_of_lt l_mf
                have n_U_mf:wr.heap.size≠K.mf:=Nat.ne_of_gt l_mf
                have n_ms_U:K.ms≠wr.heap.size:=Nat.ne_of_lt l_ms
                have n_U_ms:wr.heap.size≠K.ms:=Nat.ne_of_gt l_ms
                have n_mn_U:K.mn≠wr.heap.size:=Nat.ne_of_lt l_mn
                have n_U_mn:wr.heap.size≠K.mn:=Nat.ne_of_gt l_mn
                have o_U:w.heap.size≤wr.heap.size:=HSr.out.size
                have off_U:Off K T (wr.heap.size):=off_new HCr.out (Nat.le_refl _)
                have o0_U:K.w0.heap.size≤wr.heap.size:=Nat.le_trans HCr.out.keep.size (Nat.le_refl _)
                have HCw51:=Lib.hid (HCr.out.kp0 Kw51)
                have HSw51:=Lib.hid (HSr.out.loc Kw51 (by simp))
                have HKkbw51:=Lib.hid (HKBr.out.keep Kw51 (by simp))
                have Rw51_U:=Lib.hid cw51_U
                clear Kw51 cw51_U l_c l_mf l_ms l_mn l_kb HCr HSr HKBr
                have l_kb:=HKkbw51.out.lt
                obtain ⟨l_c,l_mf,l_ms,l_mn⟩:=HCw51.out.lt
                obtain ⟨l_U,xU_0,xU_1,xU_2,xU_3,xU_4,xU_5,xU_6,xU_7,yU_0,yU_1,yU_2,yU_3,yU_4,yU_5,yU_6,yU_7⟩:=cf8 Rw51_U.out
                have HRF:=Lib.hid (root_at HCw51.out HRT.out)
                go_cut [16] (fun s0 W=>s0= .bool false∧Keeps [] w51 W)
                case first=>
                  go_region_law (refine step_at (fun W=>Keeps [] w51 W) (by with_reducible repeat (first|exact k0 _ _|refine kA ?_ _|refine kD ?_|refine kS ?_ (by simp)|refine kM ?_ (by simp))) ?_;rintro wq hq;refine step_callG (f:=68) (vals:= #[.pointer (some ⟨K.c,0,none⟩),.agg #[.int .i64 u.of.1,.string u.of.2]]) (by first|rfl|simp [Region.wanted,yielded]) _ rfl (by kernel_rfl) (HRF.out _ hq) ?_;rintro v u_ ⟨rfl,hk0⟩;have hku:=hq.trans hk0 (by simp);have r_U:=hku.at Rw51_U.out (by simp);have lr_U:=h_lt r_U;have z0:=cell_of_heap r_U 0;have z1:=cell_of_heap r_U 1;have z2:=cell_of_heap r_U 2;have z3:=cell_of_heap r_U 3;have z4:=cell_of_heap r_U 4;have z5:=cell_of_heap r_U 5;have z6:=cell_of_heap r_U 6;have z7:=cell_of_heap r_U 7;simp at z0 z1 z2 z3 z4 z5 z6 z7;have hlk3:=(HKkbw51.out.keep hku (by simp)).look r (n:=kn) HKN.out)
                  all_goals
                    go_wp2_with fail
                    go_meet
                    case rel=>exact ⟨rfl,hku.trans (fp':= []) (by with_reducible repeat (first|exact k0 _ _|refine kA ?_ _|refine kD ?_|refine kS ?_ (by simp)|refine kM ?_ (by simp))) (by simp)⟩
                case rest=>
                  obtain ⟨rfl,hk⟩:=hcut
                  generalize wc=w52 at*
                  have Rw52_U:=Lib.hid (hk.at Rw51_U.out (by simp))
                  have HCw52:=Lib.hid (HCw51.out.kp0 hk)
                  have HSw52:=Lib.hid (HSw51.out.loc hk (by simp))
                  have HKkbw52:=Lib.hid (HKkbw51.out.keep hk (by simp))
                  clear hk HRF Rw51_U HCw51 HSw51 HKkbw51 l_c l_U xU_0 xU_1 xU_2 xU_3 xU_4 xU_5 xU_6 xU_7 yU_0 yU_1 yU_2 yU_3 yU_4 yU_5 yU_6 yU_7 l_mf l_ms l_mn l_kb
                  have l_kb:=HKkbw52.out.lt
                  obtain ⟨l_c,l_mf,l_ms,l_mn⟩:=HCw52.out.lt
                  have l_U:=h_lt Rw52_U.out
                  go_wp2_with fail
                  go_roundg f
                  case measure=>omega
                  case rel=>
                    exact ⟨k+1,by first|rfl|(simp;done)|(simp;omega),by omega,by omega,st1,HL.out,har,HKkbw52.out,HCw52.out,HSw52.out⟩
    · have hke:k=st1.uses.length:=by rw [HL.out];omega
      rw [hke,List.drop_length,arraysF] at har
      obtain rfl:st1=st':=by simpa using har
      clear har hl
      have l_kb:=HKBr.out.lt
      obtain ⟨l_c,l_mf,l_ms,l_mn⟩:=HCr.out.lt
      go_wp2_with fail
      refine end_at (v:= .tuple #[]) (fun W=>Keeps [] wr W) (by with_reducible repeat (first|exact k0 _ _|refine kA ?_ _|refine kD ?_|refine kS ?_ (by simp)|refine kM ?_ (by simp))) (fun w51 hW=> ?_) rfl (fun w51 hW=> ?_)
      · have Kw51:Keeps [] wr w51:=hW
        simp [results,Tryz.results30,go_sem]
      · have Kw51:Keeps [] wr w51:=hW
        have HCw51:=Lib.hid (HCr.out.kp0 Kw51)
        have HSw51:=Lib.hid (HSr.out.loc Kw51 (by simp))
        have HKkbw51:=Lib.hid (HKBr.out.keep Kw51 (by simp))
        clear Kw51 l_c l_mf l_ms l_mn l_kb HCr HSr HKBr
        exact ⟨_,_,_,rfl,HCw51.out,HSw51.out⟩
end Go.Proofs.YteafcepaolofpaaGreatDoor
