/- heads, walked. Made by a program (check.py, walk.py). -/
import Derived.Test.YteafcepaolofpaaGreatDoorHedL
set_option maxRecDepth 100000
set_option maxHeartbeats 4000000
set_option linter.unusedSimpArgs false
set_option linter.unusedVariables false
set_option linter.unusedSectionVars false
namespace Go.Proofs.YteafcepaolofpaaGreatDoor
open Go.RowKit

theorem heads_any{K : CKey}(hK:CFix K){w:World}{st':NS}(h00:Keeps [] K.w0 w)(hcr:w.heap[K.c]? =some (ckC K ns0 none 0))(hmf:w.heap[K.mf]? =some (.map #[] 0))(hms:w.heap[K.ms]? =some (.map #[] 0))(hmn:w.heap[K.mn]? =some (.map #[] 0))(hst:headsA K.g 0 K.g.funcs ns0=st'):
    Calls Tryz.prog 28 #[.pointer (some ⟨K.c,0,none⟩)] w fun r w'=>∃T ua uc,r= .returned (.tuple #[])∧CK K T ua uc st' w':=by
  have hfs:=hK.small
  have HK00:=Lib.hid h00;have HCR:=Lib.hid hcr;have HMF:=Lib.hid hmf;have HMS:=Lib.hid hms;have HMN:=Lib.hid hmn
  clear h00 hcr hmf hms hmn
  go_enter Tryz.func28,Tryz.ntmps28
  obtain ⟨l_c,xc_0,xc_1,xc_2,xc_3,xc_4,xc_5,xc_6,xc_7,xc_8,xc_9,xc_10,yc_0,yc_1,yc_2,yc_3,yc_4,yc_5,yc_6,yc_7,yc_8,yc_9,yc_10⟩:=cf11 HCR.out
  obtain ⟨fa,hfa0⟩:∃x,K.fa=x:=⟨_,rfl⟩
  rw [hfa0] at xc_1
  have HFA0:=Lib.hid hfa0
  clear hfa0
  go_wp2_with fail
  clear l_c xc_0 xc_1 xc_2 xc_3 xc_4 xc_5 xc_6 xc_7 xc_8 xc_9 xc_10 yc_0 yc_1 yc_2 yc_3 yc_4 yc_5 yc_6 yc_7 yc_8 yc_9 yc_10
  go_loopg [18] (K.g.funcs.length+1) (fun g j wr=>HedI1 K w g j wr)
  case atStart=>exact ⟨0,rfl,Nat.zero_le _,rfl,Keeps.refl _ _,[],0,HMF.out,fun s=>rfl⟩
  case round=>
    obtain ⟨k,rfl,hk1,hk2,hk,es,ek,hmf,hmi⟩:=hrel
    have HKr:=Lib.hid hk;have RM:=Lib.hid hmf;have HMI:=Lib.hid hmi;have RC:=Lib.hid (hk.at HCR.out (by simp [hK.ne.1]))
    have hkw:Keeps [] K.w0 wr:=HK00.out.trans hk (by simp;exact hK.mf)
    clear hk hmf hmi
    by_cases hlt:k<K.g.funcs.length
    · obtain ⟨g,o,pa,pc,fmb,nab,ncb,hfa,c0,c1,c2,c3,c4,c5,c6,c7,hsp,hcap⟩:=func_at hK hkw hlt
      have lg:g<wr.heap.size:=lt_cell c0
      have efa:=HFA0.out.symm.trans hfa
      subst efa
      clear hfa
      have hta:K.g.funcs.take (k+1)=K.g.funcs.take k++ [K.g.funcs[k]]:=List.take_succ_eq_append_getElem hlt
      generalize K.g.funcs[k]=fu at*
      have n_c_mf:K.c≠K.mf:=hK.ne.1
      have n_mf_c:=Ne.symm n_c_mf
      have o_mf0:=hK.mf
      cases gk with
      |zero=>omega
      | succ f=>
        have hkv0:=HMI.out fu.name
        by_cases h0:flookA fu.name (K.g.funcs.take k) 0=0
        · have hkv:kval fu.name es=none:=by rw [hkv0,if_pos h0]
          clear hkv0
          have l_c:=h_lt RC.out
          have l_mf:=h_lt RM.out
          go_upto_region 3 with fail
          refine wp_at (fun W=>Keeps [] wr W∧W.heap[wr.heap.size]? =some (.cells #[.string fu.name,.slice pa fu.params.length pc,.int .i64 fu.body.kind,.string fu.body.name,.float .f64 fmb,.slice nab fu.body.kids.length ncb,.complex .f64 fu.body.re fu.body.im,.complex .f64 fu.re fu.im] 67 (0,0))) ⟨(by with_reducible repeat (first|exact k0 _ _|refine kA ?_ _|refine kD ?_|refine kS ?_ (by simp)|refine kM ?_ (by simp))),(by simp only [hS,hA,hD,hM,World.size_setCell,World.size_drew,reduceIte,Option.map_some,Obj.put]<;>rfl)⟩ ?_
          rintro w51 ⟨Kw51,cw51_F⟩
          have n_c_F:K.c≠wr.heap.size:=Nat.ne_of_lt l_c
          have n_F_c:wr.heap.size≠K.c:=Nat.ne_of_gt l_c
          have n_mf_F:K.mf≠wr.heap.size:=Nat.ne_of_lt l_mf
          have n_F_mf:wr.heap.size≠K.mf:=Nat.ne_of_gt l_mf
          have o_F:w.heap.size≤wr.heap.size:=HKr.out.size
          have Rw51_c:=Lib.hid (Kw51.at RC.out (by simp))
          have Rw51_mf:=Lib.hid (Kw51.at RM.out (by simp))
          have HKw51:=Lib.hid (HKr.out.trans Kw51 (by simp))
          have Rw51_F:=Lib.hid cw51_F
          clear Kw51 cw51_F l_c l_mf RC RM HKr
          obtain ⟨l_c,xc_0,xc_1,xc_2,xc_3,xc_4,xc_5,xc_6,xc_7,xc_8,xc_9,xc_10,yc_0,yc_1,yc_2,yc_3,yc_4,yc_5,yc_6,yc_7,yc_8,yc_9,yc_10⟩:=cf11 Rw51_c.out
          have l_mf:=h_lt Rw51_mf.out
          obtain ⟨l_F,xF_0,xF_1,xF_2,xF_3,xF_4,xF_5,xF_6,xF_7,yF_0,yF_1,yF_2,yF_3,yF_4,yF_5,yF_6,yF_7⟩:=cf8 Rw51_F.out
          have hlk:=look65n (W:=w51.drew) Rw51_mf.out hkv
          go_cut [4,5] (fun s4 s5 W=>s4= .int .i64 0∧s5= .bool false∧Keeps [] w51 W)
          case first=>
            go_region
            all_goals
              go_wp2_with fail
              go_meet
              case rel=>exact ⟨rfl,rfl,(by with_reducible repeat (first|exact k0 _ _|refine kA ?_ _|refine kD ?_|refine kS ?_ (by simp)|refine kM ?_ (by simp)))⟩
          case rest=>
            obtain ⟨rfl,rfl,hk⟩:=hcut
            generalize wc=w52 at*
            have Rw52_c:=Lib.hid (hk.at Rw51_c.out (by simp))
            have Rw52_mf:=Lib.hid (hk.at Rw51_mf.out (by simp))
            have Rw52_F:=Lib.hid (hk.at Rw51_F.out (by simp))
            have HKw52:=Lib.hid (HKw51.out.trans hk (by simp))
            clear hk Rw51_c Rw51_mf Rw51_F HKw51 l_c xc_0 xc_1 xc_2 xc_3 xc_4 xc_5 xc_6 xc_7 xc_8 xc_9 xc_10 yc_0 yc_1 yc_2 yc_3 yc_4 yc_5 yc_6 yc_7 yc_8 yc_9 yc_10 l_mf l_F xF_0 xF_1 xF_2 xF_3 xF_4 xF_5 xF_6 xF_7 yF_0 yF_1 yF_2 yF_3 yF_4 yF_5 yF_6 yF_7
            obtain ⟨l_c,xc_0,xc_1,xc_2,xc_3,xc_4,xc_5,xc_6,xc_7,xc_8,xc_9,xc_10,yc_0,yc_1,yc_2,yc_3,yc_4,yc_5,yc_6,yc_7,yc_8,yc_9,yc_10⟩:=cf11 Rw52_c.out
            have l_mf:=h_lt Rw52_mf.out
            obtain ⟨l_F,xF_0,xF_1,xF_2,xF_3,xF_4,xF_5,xF_6,xF_7,yF_0,yF_1,yF_2,yF_3,yF_4,yF_5,yF_6,yF_7⟩:=cf8 Rw52_F.out
            go_upto_region 5 with fail
            have hup:=run_fns (W:=w52.drew) Rw52_mf.out fu.name (.int .i64 ((k:Int)+1))
            go_wp2_with fail
            go_region
            all_goals
              have l_c:=h_lt Rw52_c.out
              have l_mf:=h_lt Rw52_mf.out
              have l_F:=h_lt Rw52_F.out
              go_wp2_with fail
              go_roundg f
              case measure=>omega
              case rel=>
                refine inv_at (fun W=>Keeps [K.mf] w52 W∧W.heap[K.mf]? =some (.map (ents (fun s=>Value.string s) (kput fu.name (.int .i64 ((k:Int)+1)) ek es).1) (kput fu.name (.int .i64 ((k:Int)+1)) ek es).2)) ⟨(by with_reducible repeat (first|exact k0 _ _|refine kA ?_ _|refine kD ?_|refine kS ?_ (by simp)|refine kM ?_ (by simp))),(by simp only [hS,hA,hD,hM,reduceIte,Option.map_some,Obj.put,Rw52_mf.out,Nat.ne_of_lt l_mf,Nat.ne_of_gt l_mf]<;>rfl)⟩ ?_
                rintro w53 ⟨Kw53,cw53_mf⟩
                have Rw53_c:=Lib.hid (Kw53.at Rw52_c.out (by simp [n_c_mf]))
                have Rw53_F:=Lib.hid (Kw53.at Rw52_F.out (by simp [n_F_mf]))
                have HKw53:=Lib.hid (HKw52.out.trans Kw53 (by simp))
                have Rw53_mf:=Lib.hid cw53_mf
                clear Kw53 cw53_mf l_c l_mf l_F Rw52_c Rw52_F HKw52 Rw52_mf
                exact ⟨k+1,by first|rfl|(simp;done)|(simp;omega),by omega,by omega,HKw53.out,_,_,Rw53_mf.out,by rw [hta];exact HMI.out.put h0 (by rw [List.length_take,Nat.min_eq_left hk1];rfl)⟩
        · obtain ⟨vv,hkv⟩:∃v,kval fu.name es=some v:=⟨_,by rw [hkv0,if_neg h0]⟩
          clear hkv0
          have l_c:=h_lt RC.out
          have l_mf:=h_lt RM.out
          go_upto_region 3 with fail
          refine wp_at (fun W=>Keeps [] wr W∧W.heap[wr.heap.size]? =some (.cells #[.string fu.name,.slice pa fu.params.length pc,.int .i64 fu.body.kind,.string fu.body.name,.float .f64 fmb,.slice nab fu.body.kids.length ncb,.complex .f64 fu.body.re fu.body.im,.complex .f64 fu.re fu.im] 67 (0,0))) ⟨(by with_reducible repeat (first|exact k0 _ _|refine kA ?_ _|refine kD ?_|refine kS ?_ (by simp)|refine kM ?_ (by simp))),(by simp only [hS,hA,hD,hM,World.size_setCell,World.size_drew,reduceIte,Option.map_some,Obj.put]<;>rfl)⟩ ?_
          rintro w51 ⟨Kw51,cw51_F⟩
          have n_c_F:K.c≠wr.heap.size:=Nat.ne_of_lt l_c
          have n_F_c:wr.heap.size≠K.c:=Nat.ne_of_gt l_c
          have n_mf_F:K.mf≠wr.heap.size:=Nat.ne_of_lt l_mf
          have n_F_mf:wr.heap.size≠K.mf:=Nat.ne_of_gt l_mf
          have o_F:w.heap.size≤wr.heap.size:=HKr.out.size
          have Rw51_c:=Lib.hid (Kw51.at RC.out (by simp))
          have Rw51_mf:=Lib.hid (Kw51.at RM.out (by simp))
          have HKw51:=Lib.hid (HKr.out.trans Kw51 (by simp))
          have Rw51_F:=Lib.hid cw51_F
          clear Kw51 cw51_F l_c l_mf RC RM HKr
          obtain ⟨l_c,xc_0,xc_1,xc_2,xc_3,xc_4,xc_5,xc_6,xc_7,xc_8,xc_9,xc_10,yc_0,yc_1,yc_2,yc_3,yc_4,yc_5,yc_6,yc_7,yc_8,yc_9,yc_10⟩:=cf11 Rw51_c.out
          have l_mf:=h_lt Rw51_mf.out
          obtain ⟨l_F,xF_0,xF_1,xF_2,xF_3,xF_4,xF_5,xF_6,xF_7,yF_0,yF_1,yF_2,yF_3,yF_4,yF_5,yF_6,yF_7⟩:=cf8 Rw51_F.out
          have hlk:=look65s (W:=w51.drew) Rw51_mf.out hkv
          go_cut [4,5] (fun s4 s5 W=>s4=vv∧s5= .bool true∧Keeps [] w51 W)
          case first=>
            go_region
            all_goals
              go_wp2_with fail
              go_meet
              case rel=>exact ⟨rfl,rfl,(by with_reducible repeat (first|exact k0 _ _|refine kA ?_ _|refine kD ?_|refine kS ?_ (by simp)|refine kM ?_ (by simp)))⟩
          case rest=>
            obtain ⟨rfl,rfl,hk⟩:=hcut
            generalize wc=w52 at*
            have Rw52_c:=Lib.hid (hk.at Rw51_c.out (by simp))
            have Rw52_mf:=Lib.hid (hk.at Rw51_mf.out (by simp))
            have Rw52_F:=Lib.hid (hk.at Rw51_F.out (by simp))
            have HKw52:=Lib.hid (HKw51.out.trans hk (by simp))
            clear hk Rw51_c Rw51_mf Rw51_F HKw51 l_c xc_0 xc_1 xc_2 xc_3 xc_4 xc_5 xc_6 xc_7 xc_8 xc_9 xc_10 yc_0 yc_1 yc_2 yc_3 yc_4 yc_5 yc_6 yc_7 yc_8 yc_9 yc_10 l_mf l_F xF_0 xF_1 xF_2 xF_3 xF_4 xF_5 xF_6 xF_7 yF_0 yF_1 yF_2 yF_3 yF_4 yF_5 yF_6 yF_7
            have l_c:=h_lt Rw52_c.out
            have l_mf:=h_lt Rw52_mf.out
            have l_F:=h_lt Rw52_F.out
            go_wp2_with fail
            go_roundg f
            case measure=>omega
            case rel=>
              exact ⟨k+1,by first|rfl|(simp;done)|(simp;omega),by omega,by omega,HKw52.out,_,_,Rw52_mf.out,by rw [hta];exact HMI.out.skip h0⟩
    · have hke:k=K.g.funcs.length:=by omega
      have hmi2:=HMI.out
      rw [hke,List.take_length] at hmi2
      obtain ⟨T,ua,uc,hck⟩:=ck_start hK HK00.out HKr.out HCR.out HMS.out HMN.out RM.out hmi2
      clear hmi2 hke hkw HKr RM HMI RC
      rename World=>wo
      have HC0:=Lib.hid hck;have HS0:=Lib.hid (CStep.refl K T wo)
      clear hck
      obtain ⟨l_c,xc_0,xc_1,xc_2,xc_3,xc_4,xc_5,xc_6,xc_7,xc_8,xc_9,xc_10,yc_0,yc_1,yc_2,yc_3,yc_4,yc_5,yc_6,yc_7,yc_8,yc_9,yc_10⟩:=cf11 HC0.out.row
      obtain ⟨-,l_mf,l_ms,l_mn⟩:=HC0.out.lt
      rw [HFA0.out] at xc_1
      go_wp2_with fail
      clear l_c xc_0 xc_1 xc_2 xc_3 xc_4 xc_5 xc_6 xc_7 xc_8 xc_9 xc_10 yc_0 yc_1 yc_2 yc_3 yc_4 yc_5 yc_6 yc_7 yc_8 yc_9 yc_10 l_mf l_ms l_mn
      go_loopg [50] (K.g.funcs.length+1) (fun g j wr=>HedI2 K T ua uc st' wo g j wr)
      case atStart=>exact ⟨0,rfl,Nat.zero_le _,rfl,ns0,hst,HC0.out,HS0.out⟩
      case round=>
        rename World=>wp
        obtain ⟨k,rfl,hk1,hk2,st1,hh,hc,hs⟩:=hrel
        by_cases hlt:k<K.g.funcs.length
        · obtain ⟨g, o, pa, pc,fmb,nab,ncb,hfa,c0,c1,c2,c3,c4,c5,c6,c7,hsp,hcap⟩:=func_at hK hc.keep hlt
          have lg:g<wp.heap.size:=lt_cell c0
          have efa:=HFA0.out.symm.trans hfa
          subst efa
          clear hfa
          have HCp:=Lib.hid hc;have HSp:=Lib.hid hs;have HSPP:=Lib.hid hsp
          have hps:K.g.funcs[k].params.length≤1000000:=hK.psmall _ (List.getElem_mem hlt)
          clear hc hs hsp
          rw [List.drop_eq_getElem_cons hlt,headsA] at hh
          generalize K.g.funcs[k]=fu at*
          cases gk with
          |zero=>omega
          | succ f=>
            obtain ⟨l_c,l_mf,l_ms,l_mn⟩:=HCp.out.lt
            go_upto_block 4 with fail
            refine wp_at (fun W=>Keeps [] wp W∧W.heap[wp.heap.size]? =some (.cells #[.string fu.name,.slice pa fu.params.length pc,.int .i64 fu.body.kind,.string fu.body.name,.float .f64 fmb,.slice nab fu.body.kids.length ncb,.complex .f64 fu.body.re fu.body.im,.complex .f64 fu.re fu.im] 67 (0,0))) ⟨(by with_reducible repeat (first|exact k0 _ _|refine kA ?_ _|refine kD ?_|refine kS ?_ (by simp)|refine kM ?_ (by simp))),(by simp only [hS,hA,hD,hM,World.size_setCell,World.size_drew,reduceIte,Option.map_some,Obj.put]<;>rfl)⟩ ?_
            rintro w21 ⟨Kw21,cw21_F⟩
            have n_c_F:K.c≠wp.heap.size:=Nat.ne_of_lt l_c
            have n_F_c:wp.heap.size≠K.c:=Nat.ne_of_gt l_c
            have n_mf_F:K.mf≠wp.heap.size:=Nat.ne_of_lt l_mf
            have n_F_mf:wp.heap.size≠K.mf:=Nat.ne_of_gt l_mf
            have n_ms_F:K.ms≠wp.heap.size:=Nat.ne_of_lt l_ms
            have n_F_ms:wp.heap.size≠K.ms:=Nat.ne_of_gt l_ms
            have n_mn_F:K.mn≠wp.heap.size:=Nat.ne_of_lt l_mn
            have n_F_mn:wp.heap.size≠K.mn:=Nat.ne_of_gt l_mn
            have o_F:wo.heap.size≤wp.heap.size:=HSp.out.size
            have off_F:Off K T (wp.heap.size):=off_new HCp.out (Nat.le_refl _)
            have o0_F:K.w0.heap.size≤wp.heap.size:=Nat.le_trans HCp.out.keep.size (Nat.le_refl _)
            have HCw21:=Lib.hid (HCp.out.kp0 Kw21)
            have HSw21:=Lib.hid (HSp.out.loc Kw21 (by simp))
            have Rw21_F:=Lib.hid cw21_F
            clear Kw21 cw21_F l_c l_mf l_ms l_mn HCp HSp
            go_cut [] (fun W=>CK K T ua uc (if flook K.g fu.name≠k+1 then faultF st1 fu.re fu.im 29 else if specialF fu.name=true then faultF st1 fu.re fu.im 28 else st1) W∧CStep K T T wo W∧W.heap[wp.heap.size]? =some (.cells #[.string fu.name,.slice pa fu.params.length pc,.int .i64 fu.body.kind,.string fu.body.name,.float .f64 fmb,.slice nab fu.body.kids.length ncb,.complex .f64 fu.body.re fu.body.im,.complex .f64 fu.re fu.im] 67 (0,0)))
            case first=>
              obtain ⟨fl,hfl⟩:∃x,x=flook K.g fu.name:=⟨_,rfl⟩
              have HFL:=Lib.hid hfl
              by_cases h0:fl=k+1
              · have hf0:flook K.g fu.name=k+1:=hfl.symm.trans h0
                have b1:((fl:Int)==(k:Int)+1)=true:=by simp;omega
                have b2:((fl:Int) !=(k:Int)+1)=false:=by simp;omega
                have b3:(fl:Int)=(k:Int)+1:=by omega
                clear hfl
                by_cases hsp:specialF fu.name=true
                · have HST:Hid ((if flook K.g fu.name≠k+1 then faultF st1 fu.re fu.im 29 else if specialF fu.name=true then faultF st1 fu.re fu.im 28 else st1)=faultF st1 fu.re fu.im 28):=Lib.hid (by simp [hf0,hsp])
                  clear h0 b3 hf0
                  obtain ⟨l_c,xc_0,xc_1,xc_2,xc_3,xc_4,xc_5,xc_6,xc_7,xc_8,xc_9,xc_10,yc_0,yc_1,yc_2,yc_3,yc_4,yc_5,yc_6,yc_7,yc_8,yc_9,yc_10⟩:=cf11 HCw21.out.row
                  obtain ⟨-,l_mf,l_ms,l_mn⟩:=HCw21.out.lt
                  obtain ⟨l_F,xF_0,xF_1,xF_2,xF_3,xF_4,xF_5,xF_6,xF_7,yF_0,yF_1,yF_2,yF_3,yF_4,yF_5,yF_6,yF_7⟩:=cf8 Rw21_F.out
                  go_upto_region 10 with fail
                  have hlk:=HCw21.out.flook' fu.name (v:=(fl:Int)) (by rw [HFL.out])
                  go_cut [55] (fun s55 W=>s55= .bool false∧Keeps [] w21 W)
                  case first=>
                    go_region
                    all_goals
                      go_wp2_with fail
                      go_meet
                      case rel=>exact ⟨rfl,(by with_reducible repeat (first|exact k0 _ _|refine kA ?_ _|refine kD ?_|refine kS ?_ (by simp)|refine kM ?_ (by simp)))⟩
                  case rest=>
                    obtain ⟨rfl,hk⟩:=hcut
                    generalize wc=w31 at*
                    have Rw31_F:=Lib.hid (hk.at Rw21_F.out (by simp))
                    have HCw31:=Lib.hid (HCw21.out.kp0 hk)
                    have HSw31:=Lib.hid (HSw21.out.loc hk (by simp))
                    clear hk Rw21_F HCw21 HSw21 l_c xc_0 xc_1 xc_2 xc_3 xc_4 xc_5 xc_6 xc_7 xc_8 xc_9 xc_10 yc_0 yc_1 yc_2 yc_3 yc_4 yc_5 yc_6 yc_7 yc_8 yc_9 yc_10 l_F xF_0 xF_1 xF_2 xF_3 xF_4 xF_5 xF_6 xF_7 yF_0 yF_1 yF_2 yF_3 yF_4 yF_5 yF_6 yF_7 l_mf l_ms l_mn
                    obtain ⟨l_c,l_mf,l_ms,l_mn⟩:=HCw31.out.lt
                    obtain ⟨l_F,xF_0,xF_1,xF_2,xF_3,xF_4,xF_5,xF_6,xF_7,yF_0,yF_1,yF_2,yF_3,yF_4,yF_5,yF_6,yF_7⟩:=cf8 Rw31_F.out
                    go_wp2_with fail
                    clear l_c l_F xF_0 xF_1 xF_2 xF_3 xF_4 xF_5 xF_6 xF_7 yF_0 yF_1 yF_2 yF_3 yF_4 yF_5 yF_6 yF_7 l_mf l_ms l_mn
                    refine (special_any fu.name _).mono ?_
                    rintro r w' ⟨rfl,hw'⟩
                    rw [hw']
                    clear hw'
                    obtain ⟨l_c,l_mf,l_ms,l_mn⟩:=HCw31.out.lt
                    obtain ⟨l_F,xF_0,xF_1,xF_2,xF_3,xF_4,xF_5,xF_6,xF_7,yF_0,yF_1,yF_2,yF_3,yF_4,yF_5,yF_6,yF_7⟩:=cf8 Rw31_F.out
                    go_wp2_with fail
                    clear l_c l_F xF_0 xF_1 xF_2 xF_3 xF_4 xF_5 xF_6 xF_7 yF_0 yF_1 yF_2 yF_3 yF_4 yF_5 yF_6 yF_7 l_mf l_ms l_mn
                    refine (fault_same hK HCw31.out fu.re fu.im 28).mono ?_
                    rintro r e32 ⟨rfl,hc,hs⟩
                    have off2_F:=hs.off (h_lt Rw31_F.out) off_F
                    have Re32_F:=Lib.hid (hs.at Rw31_F.out off_F)
                    have off_F':=off2_F
                    have HCe32:=Lib.hid hc
                    have HSe32:=Lib.hid (HSw31.out.trans hs)
                    clear Rw31_F off_F HCw31 HSw31 hc hs
                    have off_F:=off_F'
                    clear off_F' off2_F
                    obtain ⟨l_c,l_mf,l_ms,l_mn⟩:=HCe32.out.lt
                    have l_F:=h_lt Re32_F.out
                    go_wp2_with fail
                    go_meet
                    case rel=>exact ⟨by rw [HST.out];exact HCe32.out,HSe32.out,Re32_F.out⟩
                · simp only [Bool.not_eq_true] at hsp
                  have HST:Hid ((if flook K.g fu.name≠k+1 then faultF st1 fu.re fu.im 29 else if specialF fu.name=true then faultF st1 fu.re fu.im 28 else st1)=st1):=Lib.hid (by simp [hf0,hsp])
                  clear h0 b3 hf0
                  obtain ⟨l_c,xc_0,xc_1,xc_2,xc_3,xc_4,xc_5,xc_6,xc_7,xc_8,xc_9,xc_10,yc_0,yc_1,yc_2,yc_3,yc_4,yc_5,yc_6,yc_7,yc_8,yc_9,yc_10⟩:=cf11 HCw21.out.row
                  obtain ⟨-,l_mf,l_ms,l_mn⟩:=HCw21.out.lt
                  obtain ⟨l_F,xF_0,xF_1,xF_2,xF_3,xF_4,xF_5,xF_6,xF_7,yF_0,yF_1,yF_2,yF_3,yF_4,yF_5,yF_6,yF_7⟩:=cf8 Rw21_F.out
                  go_upto_region 10 with fail
                  have hlk:=HCw21.out.flook' fu.name (v:=(fl:Int)) (by rw [HFL.out])
                  go_cut [55] (fun s55 W=>s55= .bool false∧Keeps [] w21 W)
                  case first=>
                    go_region
                    all_goals
                      go_wp2_with fail
                      go_meet
                      case rel=>exact ⟨rfl,(by with_reducible repeat (first|exact k0 _ _|refine kA ?_ _|refine kD ?_|refine kS ?_ (by simp)|refine kM ?_ (by simp)))⟩
                  case rest=>
                    obtain ⟨rfl,hk⟩:=hcut
                    generalize wc=w31 at*
                    have Rw31_F:=Lib.hid (hk.at Rw21_F.out (by simp))
                    have HCw31:=Lib.hid (HCw21.out.kp0 hk)
                    have HSw31:=Lib.hid (HSw21.out.loc hk (by simp))
                    clear hk Rw21_F HCw21 HSw21 l_c xc_0 xc_1 xc_2 xc_3 xc_4 xc_5 xc_6 xc_7 xc_8 xc_9 xc_10 yc_0 yc_1 yc_2 yc_3 yc_4 yc_5 yc_6 yc_7 yc_8 yc_9 yc_10 l_F xF_0 xF_1 xF_2 xF_3 xF_4 xF_5 xF_6 xF_7 yF_0 yF_1 yF_2 yF_3 yF_4 yF_5 yF_6 yF_7 l_mf l_ms l_mn
                    obtain ⟨l_c,l_mf,l_ms,l_mn⟩:=HCw31.out.lt
                    obtain ⟨l_F,xF_0,xF_1,xF_2,xF_3,xF_4,xF_5,xF_6,xF_7,yF_0,yF_1,yF_2,yF_3,yF_4,yF_5,yF_6,yF_7⟩:=cf8 Rw31_F.out
                    go_wp2_with fail
                    clear l_c l_F xF_0 xF_1 xF_2 xF_3 xF_4 xF_5 xF_6 xF_7 yF_0 yF_1 yF_2 yF_3 yF_4 yF_5 yF_6 yF_7 l_mf l_ms l_mn
                    refine (special_any fu.name _).mono ?_
                    rintro r w' ⟨rfl,hw'⟩
                    rw [hw']
                    clear hw'
                    obtain ⟨l_c,l_mf,l_ms,l_mn⟩:=HCw31.out.lt
                    have l_F:=h_lt Rw31_F.out
                    go_wp2_with fail
                    go_meet
                    case rel=>exact ⟨by rw [HST.out];exact HCw31.out,HSw31.out,Rw31_F.out⟩
              · have hf0:¬flook K.g fu.name=k+1:=fun h=>h0 (hfl.trans h)
                have b1:((fl:Int)==(k:Int)+1)=false:=by simp;omega
                have b2:((fl:Int) !=(k:Int)+1)=true:=by simp;omega
                have HST:Hid ((if flook K.g fu.name≠k+1 then faultF st1 fu.re fu.im 29 else if specialF fu.name=true then faultF st1 fu.re fu.im 28 else st1)=faultF st1 fu.re fu.im 29):=Lib.hid (by simp [hf0])
                clear h0 hfl hf0
                obtain ⟨l_c,xc_0,xc_1,xc_2,xc_3,xc_4,xc_5,xc_6,xc_7,xc_8,xc_9,xc_10,yc_0,yc_1,yc_2,yc_3,yc_4,yc_5,yc_6,yc_7,yc_8,yc_9,yc_10⟩:=cf11 HCw21.out.row
                obtain ⟨-,l_mf,l_ms,l_mn⟩:=HCw21.out.lt
                obtain ⟨l_F,xF_0,xF_1,xF_2,xF_3,xF_4,xF_5,xF_6,xF_7,yF_0,yF_1,yF_2,yF_3,yF_4,yF_5,yF_6,yF_7⟩:=cf8 Rw21_F.out
                go_upto_region 10 with fail
                have hlk:=HCw21.out.flook' fu.name (v:=(fl:Int)) (by rw [HFL.out])
                go_cut [55] (fun s55 W=>s55= .bool true∧Keeps [] w21 W)
                case first=>
                  go_region
                  all_goals
                    go_wp2_with fail
                    go_meet
                    case rel=>exact ⟨rfl,(by with_reducible repeat (first|exact k0 _ _|refine kA ?_ _|refine kD ?_|refine kS ?_ (by simp)|refine kM ?_ (by simp)))⟩
                case rest=>
                  obtain ⟨rfl,hk⟩:=hcut
                  generalize wc=w31 at*
                  have Rw31_F:=Lib.hid (hk.at Rw21_F.out (by simp))
                  have HCw31:=Lib.hid (HCw21.out.kp0 hk)
                  have HSw31:=Lib.hid (HSw21.out.loc hk (by simp))
                  clear hk Rw21_F HCw21 HSw21 l_c xc_0 xc_1 xc_2 xc_3 xc_4 xc_5 xc_6 xc_7 xc_8 xc_9 xc_10 yc_0 yc_1 yc_2 yc_3 yc_4 yc_5 yc_6 yc_7 yc_8 yc_9 yc_10 l_F xF_0 xF_1 xF_2 xF_3 xF_4 xF_5 xF_6 xF_7 yF_0 yF_1 yF_2 yF_3 yF_4 yF_5 yF_6 yF_7 l_mf l_ms l_mn
                  obtain ⟨l_c,l_mf,l_ms,l_mn⟩:=HCw31.out.lt
                  obtain ⟨l_F,xF_0,xF_1,xF_2,xF_3,xF_4,xF_5,xF_6,xF_7,yF_0,yF_1,yF_2,yF_3,yF_4,yF_5,yF_6,yF_7⟩:=cf8 Rw31_F.out
                  go_wp2_with fail
                  clear l_c l_F xF_0 xF_1 xF_2 xF_3 xF_4 xF_5 xF_6 xF_7 yF_0 yF_1 yF_2 yF_3 yF_4 yF_5 yF_6 yF_7 l_mf l_ms l_mn
                  refine (fault_same hK HCw31.out fu.re fu.im 29).mono ?_
                  rintro r e32 ⟨rfl,hc,hs⟩
                  have off2_F:=hs.off (h_lt Rw31_F.out) off_F
                  have Re32_F:=Lib.hid (hs.at Rw31_F.out off_F)
                  have off_F':=off2_F
                  have HCe32:=Lib.hid hc
                  have HSe32:=Lib.hid (HSw31.out.trans hs)
                  clear Rw31_F off_F HCw31 HSw31 hc hs
                  have off_F:=off_F'
                  clear off_F' off2_F
                  obtain ⟨l_c,l_mf,l_ms,l_mn⟩:=HCe32.out.lt
                  have l_F:=h_lt Re32_F.out
                  go_wp2_with fail
                  go_meet
                  case rel=>exact ⟨by rw [HST.out];exact HCe32.out,HSe32.out,Re32_F.out⟩
            case rest =>
              obtain ⟨hc,hs,hF⟩:=hcut
              generalize wc=wq at*
              generalize (if flook K.g fu.name≠k+1 then faultF st1 fu.re fu.im 29 else if specialF fu.name=true then faultF st1 fu.re fu.im 28 else st1)=st2 at*
              have HCq:=Lib.hid hc;have HSq:=Lib.hid hs;have RFq:=Lib.hid hF
              clear hc hs hF HCw21 HSw21 Rw21_F
              obtain ⟨st3,hs3⟩:∃x,x=headPs K.g k fu [] fu.params st2:=⟨_,rfl⟩
              rw [←hs3] at hh
              have HS3:=Lib.hid hs3
              clear hs3
              obtain ⟨l_c,l_mf,l_ms,l_mn⟩:=HCq.out.lt
              obtain ⟨l_F,xF_0,xF_1,xF_2,xF_3,xF_4,xF_5,xF_6,xF_7,yF_0,yF_1,yF_2,yF_3,yF_4,yF_5,yF_6,yF_7⟩:=cf8 RFq.out
              go_wp2_with fail
              clear l_c l_F xF_0 xF_1 xF_2 xF_3 xF_4 xF_5 xF_6 xF_7 yF_0 yF_1 yF_2 yF_3 yF_4 yF_5 yF_6 yF_7 l_mf l_ms l_mn
              go_loopg [81] (fu.params.length+1) (fun g j wr=>HedI3 K T ua uc k fu st3 wo (wp.heap.size) (.cells #[.string fu.name,.slice pa fu.params.length pc,.int .i64 fu.body.kind,.string fu.body.name,.float .f64 fmb,.slice nab fu.body.kids.length ncb,.complex .f64 fu.body.re fu.body.im,.complex .f64 fu.re fu.im] 67 (0,0)) g j wr)
              case atStart=>exact ⟨0,rfl,Nat.zero_le _,rfl,st2,HS3.out.symm,HCq.out,HSq.out,RFq.out⟩
              case round=>
                rename World=>ws
                obtain ⟨i,rfl,hi1,hi2,st4,hh3,hc,hs,hF⟩:=hrel
                by_cases hlt3:i<fu.params.length
                · obtain ⟨g4, o4,hpa,hcs⟩:=CK.str hc HSPP.out hlt3
                  subst hpa
                  have HCs:=Lib.hid hc;have HSs:=Lib.hid hs;have RFws:=Lib.hid hF
                  have lg4:g4<ws.heap.size:=lt_cell hcs
                  have hipc:i≤pc:=Nat.le_trans hi1 hcap
                  have hti:(fu.params.take i).length=i:=by rw [List.length_take,Nat.min_eq_left hi1]
                  rw [List.drop_eq_getElem_cons hlt3,headPs] at hh3
                  have hta:fu.params.take (i+1)=fu.params.take i++ [fu.params[i]]:=List.take_succ_eq_append_getElem hlt3
                  generalize hsv:fu.params[i]=s at*
                  clear hsv hc hs hF
                  obtain ⟨st5,hs5⟩:∃x,x=headP fu s (fu.params.take i) st4:=⟨_,rfl⟩
                  rw [←hs5] at hh3
                  have HS5:=Lib.hid hs5
                  have HS6:=Lib.hid hta
                  clear hs5 hta
                  cases gk with
                  |zero=>omega
                  | succ f2 =>
                    obtain ⟨l_c,l_mf,l_ms,l_mn⟩:=HCs.out.lt
                    obtain ⟨l_F,xF_0,xF_1,xF_2,xF_3,xF_4,xF_5,xF_6,xF_7,yF_0,yF_1,yF_2,yF_3,yF_4,yF_5,yF_6,yF_7⟩:=cf8 RFws.out
                    go_wp2_with fail
                    clear l_c l_F xF_0 xF_1 xF_2 xF_3 xF_4 xF_5 xF_6 xF_7 yF_0 yF_1 yF_2 yF_3 yF_4 yF_5 yF_6 yF_7 l_mf l_ms l_mn
                    go_loopg [91] (i+1) (fun g j wr=>HedI4 K T ua uc fu s (fu.params.take i) st5 wo (wp.heap.size) (.cells #[.string fu.name,.slice (some ⟨g4,o4,none⟩) fu.params.length pc,.int .i64 fu.body.kind,.string fu.body.name,.float .f64 fmb,.slice nab fu.body.kids.length ncb,.complex .f64 fu.body.re fu.body.im,.complex .f64 fu.re fu.im] 67 (0,0)) g j wr)
                    case atStart=>exact ⟨0,rfl,Nat.zero_le _,by rw [hti],st4,HS5.out.symm,HCs.out,HSs.out,RFws.out⟩
                    case round=>
                      obtain ⟨m,rfl,hm1,hm2,st6,hh4,hc,hs,hF⟩:=hrel
                      have HCr:=Lib.hid hc;have HSr:=Lib.hid hs;have RFwr:=Lib.hid hF
                      clear hc hs hF
                      by_cases hlt4:m<(fu.params.take i).length
                      · have hmi:m<i:=by omega
                        have hmp:m<fu.params.length:=by omega
                        obtain ⟨g5,o5,hpa5,hcs5⟩:=CK.str HCr.out HSPP.out hmp
                        simp only [Option.some.injEq,Addr.mk.injEq,and_true] at hpa5
                        obtain ⟨rfl,rfl⟩:=hpa5
                        have lg5:=lt_cell hcs5
                        rw [List.drop_eq_getElem_cons hlt4,headP] at hh4
                        rw [List.getElem_take] at hh4
                        generalize fu.params[m]=t at*
                        cases gk with
                        |zero=>omega
                        | succ f3=>
                          by_cases heq:same t s=true
                          · rw [if_pos heq] at hh4
                            have heb:(t.toList==s.toList)=true:=by rw [same_eq];exact heq
                            clear heq
                            obtain ⟨l_c,l_mf,l_ms,l_mn⟩:=HCr.out.lt
                            obtain ⟨l_F,xF_0,xF_1,xF_2,xF_3,xF_4,xF_5,xF_6,xF_7,yF_0,yF_1,yF_2,yF_3,yF_4,yF_5,yF_6,yF_7⟩:=cf8 RFwr.out
                            go_wp2_with fail
                            clear l_c l_F xF_0 xF_1 xF_2 xF_3 xF_4 xF_5 xF_6 xF_7 yF_0 yF_1 yF_2 yF_3 yF_4 yF_5 yF_6 yF_7 l_mf l_ms l_mn
                            refine (fault_same hK HCr.out fu.re fu.im 29).mono ?_
                            rintro r e61 ⟨rfl,hc,hs⟩
                            have off2_F:=hs.off (h_lt RFwr.out) off_F
                            have Re61_F:=Lib.hid (hs.at RFwr.out off_F)
                            have off_F':=off2_F
                            have HCe61:=Lib.hid hc
                            have HSe61:=Lib.hid (HSr.out.trans hs)
                            clear RFwr off_F HCr HSr hc hs
                            have off_F:=off_F'
                            clear off_F' off2_F
                            obtain ⟨l_c,l_mf,l_ms,l_mn⟩:=HCe61.out.lt
                            have l_F:=h_lt Re61_F.out
                            go_wp2_with fail
                            go_roundg f3
                            case measure=>omega
                            case rel=>
                              exact ⟨m+1,by first|rfl|(simp;done)|(simp;omega),by omega,by omega,_,hh4,HCe61.out,HSe61.out,Re61_F.out⟩
                          · rw [if_neg heq] at hh4
                            simp only [Bool.not_eq_true] at heq
                            have heb:(t.toList==s.toList)=false:=by rw [same_eq];exact heq
                            clear heq
                            obtain ⟨l_c,l_mf,l_ms,l_mn⟩:=HCr.out.lt
                            have l_F:=h_lt RFwr.out
                            go_wp2_with fail
                            go_roundg f3
                            case measure=>omega
                            case rel=>
                              exact ⟨m+1,by first|rfl|(simp;done)|(simp;omega),by omega,by omega,_,hh4,HCr.out,HSr.out,RFwr.out⟩
                      · have hme:m=(fu.params.take i).length:=by omega
                        rw [hme,List.drop_length,headP] at hh4
                        obtain rfl:st6=st5:=hh4
                        obtain ⟨fl,hfl⟩:∃x,x=flook K.g s:=⟨_,rfl⟩
                        have HFL:=Lib.hid hfl
                        rw [←hfl] at hh3
                        clear hfl hme
                        cases hsp:specialF s with
                        | true=>
                          have HS7:=Lib.hid (show headPs K.g k fu (fu.params.take i++ [s]) (fu.params.drop (i+1)) (seePut (faultF st6 fu.re fu.im 28) (k+1,s))=st3 by rw [hsp] at hh3;simpa using hh3)
                          clear hh3
                          obtain ⟨l_c,l_mf,l_ms,l_mn⟩:=HCr.out.lt
                          have l_F:=h_lt RFwr.out
                          go_wp2_with fail
                          clear l_c l_F l_mf l_ms l_mn
                          refine (special_any s _).mono ?_
                          rintro r w' ⟨rfl,hw'⟩
                          rw [hw']
                          clear hw'
                          obtain ⟨l_c,l_mf,l_ms,l_mn⟩:=HCr.out.lt
                          obtain ⟨l_F,xF_0,xF_1,xF_2,xF_3,xF_4,xF_5,xF_6,xF_7,yF_0,yF_1,yF_2,yF_3,yF_4,yF_5,yF_6,yF_7⟩:=cf8 RFwr.out
                          go_wp2_with fail
                          clear l_c l_F xF_0 xF_1 xF_2 xF_3 xF_4 xF_5 xF_6 xF_7 yF_0 yF_1 yF_2 yF_3 yF_4 yF_5 yF_6 yF_7 l_mf l_ms l_mn
                          refine (fault_same hK HCr.out fu.re fu.im 28).mono ?_
                          rintro r e61 ⟨rfl,hc,hs⟩
                          have off2_F:=hs.off (h_lt RFwr.out) off_F
                          have Re61_F:=Lib.hid (hs.at RFwr.out off_F)
                          have off_F':=off2_F
                          have HCe61:=Lib.hid hc
                          have HSe61:=Lib.hid (HSr.out.trans hs)
                          clear RFwr off_F HCr HSr hc hs
                          have off_F:=off_F'
                          clear off_F' off2_F
                          obtain ⟨l_c,xc_0,xc_1,xc_2,xc_3,xc_4,xc_5,xc_6,xc_7,xc_8,xc_9,xc_10,yc_0,yc_1,yc_2,yc_3,yc_4,yc_5,yc_6,yc_7,yc_8,yc_9,yc_10⟩:=cf11 HCe61.out.row
                          obtain ⟨-,l_mf,l_ms,l_mn⟩:=HCe61.out.lt
                          have l_F:=h_lt Re61_F.out
                          obtain ⟨es,ek,hes,hes2⟩:=HCe61.out.seen
                          have HEB:=Lib.hid hes;have HES:=Lib.hid hes2
                          clear hes hes2
                          have hup:(Instr.mapUpdate 89 (.map (some K.mn)) (.agg #[.int .i64 ((k:Int)+1),.string s]) (.agg #[])).run Tryz.prog e61= .ok () (mset e61 K.mn (.map (ents tval (kput ((k+1,s):Thing) (.agg #[]) ek es).1) (kput ((k+1,s):Thing) (.agg #[]) ek es).2)):=run_see (K:=K) (W:=e61) HEB.out (k+1) s
                          go_wp2_with fail
                          go_roundg f2
                          case measure=>omega
                          case rel=>
                            refine inv_at (fun W=>Keeps [K.mn] e61 W∧W.heap[K.mn]? =some (.map (ents tval (kput ((k+1,s):Thing) (.agg #[]) ek es).1) (kput ((k+1,s):Thing) (.agg #[]) ek es).2)) ⟨(by with_reducible repeat (first|exact k0 _ _|refine kA ?_ _|refine kD ?_|refine kS ?_ (by simp)|refine kM ?_ (by simp))),(by simp only [hS,hA,hD,hM,reduceIte,Option.map_some,Obj.put,HEB.out,Nat.ne_of_lt l_mn,Nat.ne_of_gt l_mn]<;>rfl)⟩ ?_
                            rintro w62 ⟨Kw62,cw62_mn⟩
                            have Rw62_F:=Lib.hid (Kw62.at Re61_F.out (by simp [n_F_mn]))
                            have HCw62:Hid (CK K T ua uc (seePut (faultF st6 fu.re fu.im 28) (k+1,s)) w62):=Lib.hid (HCe61.out.see hK (k+1,s) HES.out Kw62 cw62_mn)
                            have HSw62:=Lib.hid (HSe61.out.mn Kw62)
                            have Rw62_mn:=Lib.hid cw62_mn
                            clear Kw62 cw62_mn l_c xc_0 xc_1 xc_2 xc_3 xc_4 xc_5 xc_6 xc_7 xc_8 xc_9 xc_10 yc_0 yc_1 yc_2 yc_3 yc_4 yc_5 yc_6 yc_7 yc_8 yc_9 yc_10 l_F l_mf l_ms l_mn Re61_F HCe61 HSe61
                            exact ⟨i+1,by first|rfl|(simp;done)|(simp;omega),by omega,by omega,_,by rw [HS6.out];exact HS7.out,HCw62.out,HSw62.out,Rw62_F.out⟩
                        | false=>
                          by_cases h0:0<fl
                          · have HS7:=Lib.hid (show headPs K.g k fu (fu.params.take i++ [s]) (fu.params.drop (i+1)) (seePut (faultF st6 fu.re fu.im 28) (k+1,s))=st3 by rw [hsp] at hh3;simpa [h0] using hh3)
                            have d0:(0:Int)<(fl:Int):=by omega
                            have d1:decide (0<fl)=true:=by simp [h0]
                            clear hh3
                            obtain ⟨l_c,l_mf,l_ms,l_mn⟩:=HCr.out.lt
                            have l_F:=h_lt RFwr.out
                            go_wp2_with fail
                            clear l_c l_F l_mf l_ms l_mn
                            refine (special_any s _).mono ?_
                            rintro r w' ⟨rfl,hw'⟩
                            rw [hw']
                            clear hw'
                            obtain ⟨l_c,xc_0,xc_1,xc_2,xc_3,xc_4,xc_5,xc_6,xc_7,xc_8,xc_9,xc_10,yc_0,yc_1,yc_2,yc_3,yc_4,yc_5,yc_6,yc_7,yc_8,yc_9,yc_10⟩:=cf11 HCr.out.row
                            obtain ⟨-,l_mf,l_ms,l_mn⟩:=HCr.out.lt
                            obtain ⟨l_F,xF_0,xF_1,xF_2,xF_3,xF_4,xF_5,xF_6,xF_7,yF_0,yF_1,yF_2,yF_3,yF_4,yF_5,yF_6,yF_7⟩:=cf8 RFwr.out
                            have hlk:=HCr.out.flook s (v:=(fl:Int)) (by rw [HFL.out])
                            go_wp2_with fail
                            clear l_c xc_0 xc_1 xc_2 xc_3 xc_4 xc_5 xc_6 xc_7 xc_8 xc_9 xc_10 yc_0 yc_1 yc_2 yc_3 yc_4 yc_5 yc_6 yc_7 yc_8 yc_9 yc_10 l_F xF_0 xF_1 xF_2 xF_3 xF_4 xF_5 xF_6 xF_7 yF_0 yF_1 yF_2 yF_3 yF_4 yF_5 yF_6 yF_7 l_mf l_ms l_mn
                            refine (fault_same hK HCr.out fu.re fu.im 28).mono ?_
                            rintro r e61 ⟨rfl,hc,hs⟩
                            have off2_F:=hs.off (h_lt RFwr.out) off_F
                            have Re61_F:=Lib.hid (hs.at RFwr.out off_F)
                            have off_F':=off2_F
                            have HCe61:=Lib.hid hc
                            have HSe61:=Lib.hid (HSr.out.trans hs)
                            clear RFwr off_F HCr HSr hc hs
                            have off_F:=off_F'
                            clear off_F' off2_F
                            obtain ⟨l_c,xc_0,xc_1,xc_2,xc_3,xc_4,xc_5,xc_6,xc_7,xc_8,xc_9,xc_10,yc_0,yc_1,yc_2,yc_3,yc_4,yc_5,yc_6,yc_7,yc_8,yc_9,yc_10⟩:=cf11 HCe61.out.row
                            obtain ⟨-,l_mf,l_ms,l_mn⟩:=HCe61.out.lt
                            have l_F:=h_lt Re61_F.out
                            obtain ⟨es,ek,hes,hes2⟩:=HCe61.out.seen
                            have HEB:=Lib.hid hes;have HES:=Lib.hid hes2
                            clear hes hes2
                            have hup:(Instr.mapUpdate 89 (.map (some K.mn)) (.agg #[.int .i64 ((k:Int)+1),.string s]) (.agg #[])).run Tryz.prog e61= .ok () (mset e61 K.mn (.map (ents tval (kput ((k+1,s):Thing) (.agg #[]) ek es).1) (kput ((k+1,s):Thing) (.agg #[]) ek es).2)):=run_see (K:=K) (W:=e61) HEB.out (k+1) s
                            go_wp2_with fail
                            go_roundg f2
                            case measure=>omega
                            case rel=>
                              refine inv_at (fun W=>Keeps [K.mn] e61 W∧W.heap[K.mn]? =some (.map (ents tval (kput ((k+1,s):Thing) (.agg #[]) ek es).1) (kput ((k+1,s):Thing) (.agg #[]) ek es).2)) ⟨(by with_reducible repeat (first|exact k0 _ _|refine kA ?_ _|refine kD ?_|refine kS ?_ (by simp)|refine kM ?_ (by simp))),(by simp only [hS,hA,hD,hM,reduceIte,Option.map_some,Obj.put,HEB.out,Nat.ne_of_lt l_mn,Nat.ne_of_gt l_mn]<;>rfl)⟩ ?_
                              rintro w62 ⟨Kw62,cw62_mn⟩
                              have Rw62_F:=Lib.hid (Kw62.at Re61_F.out (by simp [n_F_mn]))
                              have HCw62:Hid (CK K T ua uc (seePut (faultF st6 fu.re fu.im 28) (k+1,s)) w62):=Lib.hid (HCe61.out.see hK (k+1,s) HES.out Kw62 cw62_mn)
                              have HSw62:=Lib.hid (HSe61.out.mn Kw62)
                              have Rw62_mn:=Lib.hid cw62_mn
                              clear Kw62 cw62_mn l_c xc_0 xc_1 xc_2 xc_3 xc_4 xc_5 xc_6 xc_7 xc_8 xc_9 xc_10 yc_0 yc_1 yc_2 yc_3 yc_4 yc_5 yc_6 yc_7 yc_8 yc_9 yc_10 l_F l_mf l_ms l_mn Re61_F HCe61 HSe61
                              exact ⟨i+1,by first|rfl|(simp;done)|(simp;omega),by omega,by omega,_,by rw [HS6.out];exact HS7.out,HCw62.out,HSw62.out,Rw62_F.out⟩
                          · have hz:fl=0:=by omega
                            have HS7:=Lib.hid (show headPs K.g k fu (fu.params.take i++ [s]) (fu.params.drop (i+1)) (seePut st6 (k+1,s))=st3 by rw [hsp] at hh3;simpa [hz] using hh3)
                            have d1:decide (0<fl)=false:=by simp [hz]
                            clear hh3 hz
                            obtain ⟨l_c,l_mf,l_ms,l_mn⟩:=HCr.out.lt
                            have l_F:=h_lt RFwr.out
                            go_wp2_with fail
                            clear l_c l_F l_mf l_ms l_mn
                            refine (special_any s _).mono ?_
                            rintro r w' ⟨rfl,hw'⟩
                            rw [hw']
                            clear hw'
                            obtain ⟨l_c,xc_0,xc_1,xc_2,xc_3,xc_4,xc_5,xc_6,xc_7,xc_8,xc_9,xc_10,yc_0,yc_1,yc_2,yc_3,yc_4,yc_5,yc_6,yc_7,yc_8,yc_9,yc_10⟩:=cf11 HCr.out.row
                            obtain ⟨-,l_mf,l_ms,l_mn⟩:=HCr.out.lt
                            have l_F:=h_lt RFwr.out
                            have hlk:=HCr.out.flook s (v:=(fl:Int)) (by rw [HFL.out])
                            obtain ⟨es,ek,hes,hes2⟩:=HCr.out.seen
                            have HEB:=Lib.hid hes;have HES:=Lib.hid hes2
                            clear hes hes2
                            have hup:(Instr.mapUpdate 89 (.map (some K.mn)) (.agg #[.int .i64 ((k:Int)+1),.string s]) (.agg #[])).run Tryz.prog wr= .ok () (mset wr K.mn (.map (ents tval (kput ((k+1,s):Thing) (.agg #[]) ek es).1) (kput ((k+1,s):Thing) (.agg #[]) ek es).2)):=run_see (K:=K) (W:=wr) HEB.out (k+1) s
                            go_wp2_with fail
                            go_roundg f2
                            case measure=>omega
                            case rel=>
                              refine inv_at (fun W=>Keeps [K.mn] wr W∧W.heap[K.mn]? =some (.map (ents tval (kput ((k+1,s):Thing) (.agg #[]) ek es).1) (kput ((k+1,s):Thing) (.agg #[]) ek es).2)) ⟨(by with_reducible repeat (first|exact k0 _ _|refine kA ?_ _|refine kD ?_|refine kS ?_ (by simp)|refine kM ?_ (by simp))),(by simp only [hS,hA,hD,hM,reduceIte,Option.map_some,Obj.put,HEB.out,Nat.ne_of_lt l_mn,Nat.ne_of_gt l_mn]<;>rfl)⟩ ?_
                              rintro w61 ⟨Kw61,cw61_mn⟩
                              have Rw61_F:=Lib.hid (Kw61.at RFwr.out (by simp [n_F_mn]))
                              have HCw61:Hid (CK K T ua uc (seePut (st6) (k+1,s)) w61):=Lib.hid (HCr.out.see hK (k+1,s) HES.out Kw61 cw61_mn)
                              have HSw61:=Lib.hid (HSr.out.mn Kw61)
                              have Rw61_mn:=Lib.hid cw61_mn
                              clear Kw61 cw61_mn l_c xc_0 xc_1 xc_2 xc_3 xc_4 xc_5 xc_6 xc_7 xc_8 xc_9 xc_10 yc_0 yc_1 yc_2 yc_3 yc_4 yc_5 yc_6 yc_7 yc_8 yc_9 yc_10 l_F l_mf l_ms l_mn RFwr HCr HSr
                              exact ⟨i+1,by first|rfl|(simp;done)|(simp;omega),by omega,by omega,_,by rw [HS6.out];exact HS7.out,HCw61.out,HSw61.out,Rw61_F.out⟩
                · have hie:i=fu.params.length:=by omega
                  rw [hie,List.drop_length,headPs] at hh3
                  obtain rfl:st4=st3:=hh3
                  rename World=>wr
                  have HCr:=Lib.hid hc;have HSr:=Lib.hid hs;have RFwr:=Lib.hid hF
                  clear hc hs hF hie
                  obtain ⟨l_c,l_mf,l_ms,l_mn⟩:=HCr.out.lt
                  have l_F:=h_lt RFwr.out
                  go_wp2_with fail
                  go_roundg f
                  case measure=>omega
                  case rel=>
                    exact ⟨k+1,by first|rfl|(simp;done)|(simp;omega),by omega,by omega,_,hh,HCr.out,HSr.out⟩
        · have hke:k=K.g.funcs.length:=by omega
          rw [hke,List.drop_length,headsA] at hh
          obtain rfl:st1=st':=hh
          rename World=>wr
          have HCr:=Lib.hid hc;have HSr:=Lib.hid hs
          clear hc hs hke
          obtain ⟨l_c,l_mf,l_ms,l_mn⟩:=HCr.out.lt
          go_wp2_with fail
          refine end_at (v:= .tuple #[]) (fun W=>Keeps [] wr W) (by with_reducible repeat (first|exact k0 _ _|refine kA ?_ _|refine kD ?_|refine kS ?_ (by simp)|refine kM ?_ (by simp))) (fun w21 hW=> ?_) rfl (fun w21 hW=> ?_)
          · have Kw21:Keeps [] wr w21:=hW
            simp [results,Tryz.results28,go_sem]
          · have Kw21:Keeps [] wr w21:=hW
            have HCw21:=Lib.hid (HCr.out.kp0 Kw21)
            have HSw21:=Lib.hid (HSr.out.loc Kw21 (by simp))
            clear Kw21 l_c l_mf l_ms l_mn HCr HSr
            exact ⟨_,_,_,rfl,HCw21.out⟩
end Go.Proofs.YteafcepaolofpaaGreatDoor
