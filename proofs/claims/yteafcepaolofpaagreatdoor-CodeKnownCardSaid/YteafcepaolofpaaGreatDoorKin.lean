/- kinds, walked. Made by a program (check.py, walk.py). -/
import Derived.Test.YteafcepaolofpaaGreatDoorSortL
set_option maxRecDepth 100000
set_option maxHeartbeats 4000000
set_option linter.unusedSimpArgs false
set_option linter.unusedVariables false
set_option linter.unusedSectionVars false
namespace Go.Proofs.YteafcepaolofpaaGreatDoor
open Go.RowKit

def KinI1(K:CKey)(T:Nat→Prop)(ua:Option Addr)(uc:Nat)(st:NS)(w:World)(kb it:Nat)(g:Nat)(W:World):Prop:=
  ∃p n,RangeS W it K.mn st.seen p n∧g=n+1∧KindW W kb (fun x=>if p.any (spK st x)=true then 1 else 0)∧CK K T ua uc st W∧Keeps [] w W
def KinI2(K:CKey)(T:Nat→Prop)(ua:Option Addr)(uc:Nat)(st:NS)(kf:Kinds)(w:World)(kb:Nat)(g:Nat)(j:Value)(W:World):Prop:=
  ∃k:Nat,j= .int .i64 k∧k≤st.uses.length∧g+k=st.uses.length+1∧∃kk,kindsU st (st.uses.drop k) kk=some kf∧KindW W kb (fun x=>kof x kk)∧CK K T ua uc st W∧Keeps [] w W

theorem kinds_any{K:CKey}(hK:CFix K){T:Nat→Prop}{ua:Option Addr}{uc:Nat}{st:NS}{w:World}(h:CK K T ua uc st w){kf:Kinds}(hkf:kindsF st=some kf)(hul:st.uses.length≤1000000):
    Calls Tryz.prog 67 #[.pointer (some ⟨K.c,0,none⟩)] w fun r w'=>∃b,r= .returned (.map (some b))∧w.heap.size≤b∧KindW w' b (fun x=>kof x kf)∧Keeps [] w w':=by
  unfold kindsF at hkf
  simp only [Option.bind_eq_bind,Option.bind_eq_some_iff] at hkf
  obtain ⟨k1,hks,hku1⟩:=hkf
  obtain ⟨hroots,hkof⟩:=kindsS_ok hks
  have HU1:=Lib.hid hku1;have HRO:=Lib.hid hroots;have HKO:=Lib.hid hkof
  clear hks hku1 hroots hkof
  have HC0:=Lib.hid h;have HS0:=Lib.hid (CStep.refl K T w);have HK0:=Lib.hid (Keeps.refl [] w)
  clear h
  have n_kb_mn:w.heap.size≠K.mn:=fun e=>by have:=HC0.out.lt;omega
  have n_kb_c:w.heap.size≠K.c:=fun e=>by have:=HC0.out.lt;omega
  have n_c_kb:=Ne.symm n_kb_c;have n_mn_kb:=Ne.symm n_kb_mn
  have n_mf_kb:K.mf≠w.heap.size:=fun e=>by have:=HC0.out.lt;omega
  have n_ms_kb:K.ms≠w.heap.size:=fun e=>by have:=HC0.out.lt;omega
  have o0_kb:K.w0.heap.size≤w.heap.size:=HC0.out.keep.size
  have o_kb:w.heap.size≤w.heap.size:=Nat.le_refl _
  have hmm:(Instr.makeMap 138 none).run Tryz.prog w= .ok (.map (some w.heap.size)) (w.alloc (.map #[] 0)):=rfl
  go_enter Tryz.func67,Tryz.ntmps67
  obtain ⟨l_c,l_mf,l_ms,l_mn⟩:=HC0.out.lt
  go_upto_region 2 with fail
  refine wp_at (fun W=>Keeps [] w W∧W.heap[w.heap.size]? =some (.map #[] 0)) ⟨(by with_reducible repeat (first|exact k0 _ _|refine kA ?_ _|refine kD ?_|refine kS ?_ (by simp)|refine kM ?_ (by simp))),(by simp only [hS,hA,hD,hM,World.size_setCell,World.size_drew,reduceIte,Option.map_some,Obj.put]<;>rfl)⟩ ?_
  rintro w1 ⟨k1,ck⟩
  have HC1:=Lib.hid (HC0.out.kp0 k1);have HCB1:=Lib.hid (HC0.out.kp0 k1);have HKB1:=Lib.hid (KindW.start ck);have HK1:=Lib.hid (HK0.out.trans k1 (by simp))
  have off_kb:=off_new HC0.out (Nat.le_refl _)
  have hlk:=h_lt ck
  clear ck k1
  obtain ⟨w2,hrun,k2,hsz,hrs⟩:=RangeS.start HC1.out.seen Tryz.underlying89
  have HC2:=Lib.hid (HC1.out.kp0 k2);have HKB2:=Lib.hid (HKB1.out.keep k2 (by simp));have HK2:=Lib.hid (HK1.out.trans k2 (by simp));have HR2:=Lib.hid hrs
  have hw1:w.heap.size≤w1.heap.size:=HK1.out.size
  have off_it:=off_new HC0.out hw1
  clear k2 hrs hsz HC1 HKB1 HK1
  obtain ⟨l_c,xc_0,xc_1,xc_2,xc_3,xc_4,xc_5,xc_6,xc_7,xc_8,xc_9,xc_10,yc_0,yc_1,yc_2,yc_3,yc_4,yc_5,yc_6,yc_7,yc_8,yc_9,yc_10⟩:=cf11 (HCB1.out.row)
  go_wp2_with fail
  go_loopg [] (st.seen.length+1) (fun g wr=>KinI1 K T ua uc st w (w.heap.size) (w1.heap.size) g wr)
  case atStart=>exact ⟨[],st.seen.length,HR2.out,rfl,HKB2.out.of (fun x=>rfl),HC2.out,HK2.out⟩
  case round=>
    have n_kb_it:w.heap.size≠w1.heap.size:=Nat.ne_of_lt hlk
    have n_it_kb:=Ne.symm n_kb_it
    rename World=>wo
    obtain ⟨p,n,hrs,hg,hkb,hc,hk⟩:=hrel
    have HCwo:=Lib.hid hc;have HKBwo:=Lib.hid hkb;have HKwo:=Lib.hid hk;have HSwo:=Lib.hid ((CStep.refl K T w).loc hk (by simp))
    clear hc hkb hk
    rcases hrs.next 0 with ⟨hperm,hrun2⟩|⟨t,n2,wn,ht,hn,hrun2,hkn,hszn,hrn⟩
    · have HOF : Hid (∀x,(if p.any (spK st x)=true then 1 else 0)=kof x k1):=Lib.hid (fun x=>by rw [HKO.out x,any_perm hperm];rfl)
      clear hrs hperm
      have l_kb:=HKBwo.out.lt
      obtain ⟨l_c,xc_0,xc_1,xc_2,xc_3,xc_4,xc_5,xc_6,xc_7,xc_8,xc_9,xc_10,yc_0,yc_1,yc_2,yc_3,yc_4,yc_5,yc_6,yc_7,yc_8,yc_9,yc_10⟩:=cf11 HCwo.out.row
      obtain ⟨-,l_mf,l_ms,l_mn⟩:=HCwo.out.lt
      obtain ⟨ua0,hua0⟩:∃x,ua=x:=⟨_,rfl⟩
      have HUA:=Lib.hid hua0
      rw [hua0] at xc_6
      clear hua0
      go_wp2_with fail
      clear l_c xc_0 xc_1 xc_2 xc_3 xc_4 xc_5 xc_6 xc_7 xc_8 xc_9 xc_10 yc_0 yc_1 yc_2 yc_3 yc_4 yc_5 yc_6 yc_7 yc_8 yc_9 yc_10 l_mf l_ms l_mn l_kb
      go_loopg [34] (st.uses.length+1) (fun g j wr=>KinI2 K T ua uc st kf w (w.heap.size) g j wr)
      case atStart=>exact ⟨0,rfl,Nat.zero_le _,rfl,k1,HU1.out,HKBwo.out.of HOF.out,HCwo.out,HKwo.out⟩
      case round=>
        obtain ⟨k,rfl,hk1,hk2,kk,hku,hkb,hc,hk⟩:=hrel
        have HCwr:=Lib.hid hc;have HKBwr:=Lib.hid hkb;have HKwr:=Lib.hid hk;have HSwr:=Lib.hid ((CStep.refl K T w).loc hk (by simp))
        clear hc hkb hk
        by_cases hlt:k<st.uses.length
        · obtain ⟨gu, hgu,q0,q1,q2,q3,q4,q5,q6,q7⟩:=CK.use HCwr.out hlt
          have euu:=HUA.out.symm.trans hgu
          subst euu
          have lgu:gu<wr.heap.size:=lt_cell q0
          rw [List.drop_eq_getElem_cons hlt,kindsU] at hku
          generalize st.uses[k]=u at*
          cases gk with
          |zero=>omega
          | succ f=>
            cases hkid:u.kid with
            | true=>
              rw [if_pos (by rw [hkid];rfl)] at hku
              have l_kb:=HKBwr.out.lt
              obtain ⟨l_c,l_mf,l_ms,l_mn⟩:=HCwr.out.lt
              go_wp2_with fail
              go_roundg f
              case measure=>omega
              case rel=>
                refine inv_at (fun W=>Keeps [] wr W∧W.heap[wr.heap.size]? =some (.cells #[.complex .f64 u.re u.im,.int .i64 u.of.1,.string u.of.2,.bool u.array,.int .i64 u.param.1,.string u.param.2,.bool true,.bool u.bad] 141 (0,0))) ⟨(by with_reducible repeat (first|exact k0 _ _|refine kA ?_ _|refine kD ?_|refine kS ?_ (by simp)|refine kM ?_ (by simp))),(by simp only [hS,hA,hD,hM,World.size_setCell,World.size_drew,reduceIte,Option.map_some,Obj.put]<;>rfl)⟩ ?_
                rintro w71 ⟨Kw71,cw71_U⟩
                have n_c_U:K.c≠wr.heap.size:=Nat.ne_of_lt l_c
                have n_U_c:wr.heap.size≠K.c:=Nat.ne_of_gt l_c
                have n_mf_U:K.mf≠wr.heap.size:=Nat.ne_of_lt l_mf
                have n_U_mf:wr.heap.size≠K.mf:=Nat.ne_of_gt l_mf
                have n_ms_U:K.ms≠wr.heap.size:=Nat.ne_of_lt l_ms
                have n_U_ms:wr.heap.size≠K.ms:=Nat.ne_of_gt l_ms
                have n_mn_U:K.mn≠wr.heap.size:=Nat.ne_of_lt l_mn
                have n_U_mn:wr.heap.size≠K.mn:=Nat.ne_of_gt l_mn
                have n_kb_U:(w.heap.size)≠wr.heap.size:=Nat.ne_of_lt l_kb
                have n_U_kb:wr.heap.size≠(w.heap.size):=Nat.ne_of_gt l_kb
                have o_U:w.heap.size≤wr.heap.size:=HSwr.out.size
                have off_U:Off K T (wr.heap.size):=off_new HCwr.out (Nat.le_refl _)
                have o0_U:K.w0.heap.size≤wr.heap.size:=Nat.le_trans HCwr.out.keep.size (Nat.le_refl _)
                have HCw71:=Lib.hid (HCwr.out.kp0 Kw71)
                have HSw71:=Lib.hid (HSwr.out.loc Kw71 (by simp))
                have HKw71:=Lib.hid (HKwr.out.trans Kw71 (by simp))
                have HKkbw71:=Lib.hid (HKBwr.out.keep Kw71 (by simp))
                have Rw71_U:=Lib.hid cw71_U
                clear Kw71 cw71_U l_c l_mf l_ms l_mn l_kb HCwr HSwr HKwr HKBwr
                exact ⟨k+1,by first|rfl|(simp;done)|(simp;omega),by omega,by omega,_,hku,HKkbw71.out,HCw71.out,HKw71.out⟩
            | false =>
              cases hbad:u.bad with
              | true=>
                rw [if_pos (by rw [hkid,hbad];rfl)] at hku
                have l_kb:=HKBwr.out.lt
                obtain ⟨l_c,l_mf,l_ms,l_mn⟩:=HCwr.out.lt
                go_wp2_with fail
                go_roundg f
                case measure=>omega
                case rel=>
                  refine inv_at (fun W=>Keeps [] wr W∧W.heap[wr.heap.size]? =some (.cells #[.complex .f64 u.re u.im,.int .i64 u.of.1,.string u.of.2,.bool u.array,.int .i64 u.param.1,.string u.param.2,.bool false,.bool true] 141 (0,0))) ⟨(by with_reducible repeat (first|exact k0 _ _|refine kA ?_ _|refine kD ?_|refine kS ?_ (by simp)|refine kM ?_ (by simp))),(by simp only [hS,hA,hD,hM,World.size_setCell,World.size_drew,reduceIte,Option.map_some,Obj.put]<;>rfl)⟩ ?_
                  rintro w71 ⟨Kw71,cw71_U⟩
                  have n_c_U:K.c≠wr.heap.size:=Nat.ne_of_lt l_c
                  have n_U_c:wr.heap.size≠K.c:=Nat.ne_of_gt l_c
                  have n_mf_U:K.mf≠wr.heap.size:=Nat.ne_of_lt l_mf
                  have n_U_mf:wr.heap.size≠K.mf:=Nat.ne_of_gt l_mf
                  have n_ms_U:K.ms≠wr.heap.size:=Nat.ne_of_lt l_ms
                  have n_U_ms:wr.heap.size≠K.ms:=Nat.ne_of_gt l_ms
                  have n_mn_U:K.mn≠wr.heap.size:=Nat.ne_of_lt l_mn
                  have n_U_mn:wr.heap.size≠K.mn:=Nat.ne_of_gt l_mn
                  have n_kb_U:(w.heap.size)≠wr.heap.size:=Nat.ne_of_lt l_kb
                  have n_U_kb:wr.heap.size≠(w.heap.size):=Nat.ne_of_gt l_kb
                  have o_U:w.heap.size≤wr.heap.size:=HSwr.out.size
                  have off_U:Off K T (wr.heap.size):=off_new HCwr.out (Nat.le_refl _)
                  have o0_U:K.w0.heap.size≤wr.heap.size:=Nat.le_trans HCwr.out.keep.size (Nat.le_refl _)
                  have HCw71:=Lib.hid (HCwr.out.kp0 Kw71)
                  have HSw71:=Lib.hid (HSwr.out.loc Kw71 (by simp))
                  have HKw71:=Lib.hid (HKwr.out.trans Kw71 (by simp))
                  have HKkbw71:=Lib.hid (HKBwr.out.keep Kw71 (by simp))
                  have Rw71_U:=Lib.hid cw71_U
                  clear Kw71 cw71_U l_c l_mf l_ms l_mn l_kb HCwr HSwr HKwr HKBwr
                  exact ⟨k+1,by first|rfl|(simp;done)|(simp;omega),by omega,by omega,_,hku,HKkbw71.out,HCw71.out,HKw71.out⟩
              | false =>
                rw [if_neg (by rw [hkid,hbad];simp)] at hku
                simp only [Option.bind_eq_bind,Option.bind_eq_some_iff] at hku
                obtain ⟨r,hrt,hku⟩:=hku
                have HRT:=Lib.hid hrt
                clear hrt
                obtain ⟨kn,hkn⟩:∃x,x=kof r kk:=⟨_,rfl⟩
                have HKN:=Lib.hid hkn
                rw [←hkn] at hku
                clear hkn
                by_cases h0:kn>0
                · rw [if_pos h0] at hku
                  have d0:(0:Int)<(kn:Int):=by omega
                  have d1:decide (0<kn)=true:=by simp [h0]
                  have l_kb:=HKBwr.out.lt
                  obtain ⟨l_c,l_mf,l_ms,l_mn⟩:=HCwr.out.lt
                  go_wp2_with fail
                  refine calls_at (fun W=>Keeps [] wr W∧W.heap[wr.heap.size]? =some (.cells #[.complex .f64 u.re u.im,.int .i64 u.of.1,.string u.of.2,.bool u.array,.int .i64 u.param.1,.string u.param.2,.bool false,.bool false] 141 (0,0))) ⟨(by with_reducible repeat (first|exact k0 _ _|refine kA ?_ _|refine kD ?_|refine kS ?_ (by simp)|refine kM ?_ (by simp))),(by simp only [hS,hA,hD,hM,World.size_setCell,World.size_drew,reduceIte,Option.map_some,Obj.put]<;>rfl)⟩ ?_
                  rintro w71 ⟨Kw71,cw71_U⟩
                  have n_c_U:K.c≠wr.heap.size:=Nat.ne_of_lt l_c
                  have n_U_c:wr.heap.size≠K.c:=Nat.ne_of_gt l_c
                  have n_mf_U:K.mf≠wr.heap.size:=Nat.ne_of_lt l_mf
                  have n_U_mf:wr.heap.size≠K.mf:=Nat.ne_of_gt l_mf
                  have n_ms_U:K.ms≠wr.heap.size:=Nat.ne_of_lt l_ms
                  have n_U_ms:wr.heap.size≠K.ms:=Nat.ne_of_gt l_ms
                  have n_mn_U:K.mn≠wr.heap.size:=Nat.ne_of_lt l_mn
                  have n_U_mn:wr.heap.size≠K.mn:=Nat.ne_of_gt l_mn
                  have n_kb_U:(w.heap.size)≠wr.heap.size:=Nat.ne_of_lt l_kb
                  have n_U_kb:wr.heap.size≠(w.heap.size):=Nat.ne_of_gt l_kb
                  have o_U:w.heap.size≤wr.heap.size:=HSwr.out.size
                  have off_U:Off K T (wr.heap.size):=off_new HCwr.out (Nat.le_refl _)
                  have o0_U:K.w0.heap.size≤wr.heap.size:=Nat.le_trans HCwr.out.keep.size (Nat.le_refl _)
                  have HCw71:=Lib.hid (HCwr.out.kp0 Kw71)
                  have HSw71:=Lib.hid (HSwr.out.loc Kw71 (by simp))
                  have HKw71:=Lib.hid (HKwr.out.trans Kw71 (by simp))
                  have HKkbw71:=Lib.hid (HKBwr.out.keep Kw71 (by simp))
                  have Rw71_U:=Lib.hid cw71_U
                  clear Kw71 cw71_U l_c l_mf l_ms l_mn l_kb HCwr HSwr HKwr HKBwr
                  refine (root_any HCw71.out HRT.out).mono ?_
                  rintro r e72 ⟨rfl,hk⟩
                  have Re72_U:=Lib.hid (hk.at Rw71_U.out (by simp))
                  have HCe72:=Lib.hid (HCw71.out.kp0 hk)
                  have HSe72:=Lib.hid (HSw71.out.loc hk (by simp))
                  have HKe72:=Lib.hid (HKw71.out.trans hk (by simp))
                  have HKkbe72:=Lib.hid (HKkbw71.out.keep hk (by simp))
                  clear hk Rw71_U HCw71 HSw71 HKw71 HKkbw71
                  have l_kb:=HKkbe72.out.lt
                  obtain ⟨l_c,l_mf,l_ms,l_mn⟩:=HCe72.out.lt
                  have l_U:=h_lt Re72_U.out
                  have hlk2:=HKkbe72.out.look r (n:=kn) HKN.out
                  go_wp2_with fail
                  go_roundg f
                  case measure=>omega
                  case rel=>
                    exact ⟨k+1,by first|rfl|(simp;done)|(simp;omega),by omega,by omega,_,hku,HKkbe72.out,HCe72.out,HKe72.out⟩
                · rw [if_neg h0] at hku
                  have hz:kn=0:=by omega
                  have d0:decide (0<kn)=false:=by simp [hz]
                  cases harr:u.array with
                  | true=>
                    rw [harr,if_pos rfl] at hku
                    have HOF:Hid (∀x,(if x=r then 2 else kof x kk)=kof x ((r,2)::kk)):=Lib.hid (fun x=>by rw [kof];by_cases h:x=r<;>simp [h,teq_iff])
                    have l_kb:=HKBwr.out.lt
                    obtain ⟨l_c,l_mf,l_ms,l_mn⟩:=HCwr.out.lt
                    go_wp2_with fail
                    refine calls_at (fun W=>Keeps [] wr W∧W.heap[wr.heap.size]? =some (.cells #[.complex .f64 u.re u.im,.int .i64 u.of.1,.string u.of.2,.bool true,.int .i64 u.param.1,.string u.param.2,.bool false,.bool false] 141 (0,0))) ⟨(by with_reducible repeat (first|exact k0 _ _|refine kA ?_ _|refine kD ?_|refine kS ?_ (by simp)|refine kM ?_ (by simp))),(by simp only [hS,hA,hD,hM,World.size_setCell,World.size_drew,reduceIte,Option.map_some,Obj.put]<;>rfl)⟩ ?_
                    rintro w71 ⟨Kw71,cw71_U⟩
                    have n_c_U:K.c≠wr.heap.size:=Nat.ne_of_lt l_c
                    have n_U_c:wr.heap.size≠K.c:=Nat.ne_of_gt l_c
                    have n_mf_U:K.mf≠wr.heap.size:=Nat.ne_of_lt l_mf
                    have n_U_mf:wr.heap.size≠K.mf:=Nat.ne_of_gt l_mf
                    have n_ms_U:K.ms≠wr.heap.size:=Nat.ne_of_lt l_ms
                    have n_U_ms:wr.heap.size≠K.ms:=Nat.ne_of_gt l_ms
                    have n_mn_U:K.mn≠wr.heap.size:=Nat.ne_of_lt l_mn
                    have n_U_mn:wr.heap.size≠K.mn:=Nat.ne_of_gt l_mn
                    have n_kb_U:(w.heap.size)≠wr.heap.size:=Nat.ne_of_lt l_kb
                    have n_U_kb:wr.heap.size≠(w.heap.size):=Nat.ne_of_gt l_kb
                    have o_U:w.heap.size≤wr.heap.size:=HSwr.out.size
                    have off_U:Off K T (wr.heap.size):=off_new HCwr.out (Nat.le_refl _)
                    have o0_U:K.w0.heap.size≤wr.heap.size:=Nat.le_trans HCwr.out.keep.size (Nat.le_refl _)
                    have HCw71:=Lib.hid (HCwr.out.kp0 Kw71)
                    have HSw71:=Lib.hid (HSwr.out.loc Kw71 (by simp))
                    have HKw71:=Lib.hid (HKwr.out.trans Kw71 (by simp))
                    have HKkbw71:=Lib.hid (HKBwr.out.keep Kw71 (by simp))
                    have Rw71_U:=Lib.hid cw71_U
                    clear Kw71 cw71_U l_c l_mf l_ms l_mn l_kb HCwr HSwr HKwr HKBwr
                    refine (root_any HCw71.out HRT.out).mono ?_
                    rintro r e72 ⟨rfl,hk⟩
                    have Re72_U:=Lib.hid (hk.at Rw71_U.out (by simp))
                    have HCe72:=Lib.hid (HCw71.out.kp0 hk)
                    have HSe72:=Lib.hid (HSw71.out.loc hk (by simp))
                    have HKe72:=Lib.hid (HKw71.out.trans hk (by simp))
                    have HKkbe72:=Lib.hid (HKkbw71.out.keep hk (by simp))
                    clear hk Rw71_U HCw71 HSw71 HKw71 HKkbw71
                    have l_kb:=HKkbe72.out.lt
                    obtain ⟨l_c,l_mf,l_ms,l_mn⟩:=HCe72.out.lt
                    obtain ⟨l_U,xU_0,xU_1,xU_2,xU_3,xU_4,xU_5,xU_6,xU_7,yU_0,yU_1,yU_2,yU_3,yU_4,yU_5,yU_6,yU_7⟩:=cf8 Re72_U.out
                    have hlk2:=HKkbe72.out.look r (n:=kn) HKN.out
                    go_wp2_with fail
                    clear l_c l_U xU_0 xU_1 xU_2 xU_3 xU_4 xU_5 xU_6 xU_7 yU_0 yU_1 yU_2 yU_3 yU_4 yU_5 yU_6 yU_7 l_mf l_ms l_mn l_kb
                    refine (root_any HCe72.out HRT.out).mono ?_
                    rintro r e73 ⟨rfl,hk⟩
                    have Re73_U:=Lib.hid (hk.at Re72_U.out (by simp))
                    have HCe73:=Lib.hid (HCe72.out.kp0 hk)
                    have HSe73:=Lib.hid (HSe72.out.loc hk (by simp))
                    have HKe73:=Lib.hid (HKe72.out.trans hk (by simp))
                    have HKkbe73:=Lib.hid (HKkbe72.out.keep hk (by simp))
                    clear hk Re72_U HCe72 HSe72 HKe72 HKkbe72
                    have l_kb:=HKkbe73.out.lt
                    obtain ⟨l_c,l_mf,l_ms,l_mn⟩:=HCe73.out.lt
                    have l_U:=h_lt Re73_U.out
                    obtain ⟨es,ek,hes,hes2⟩:=HKkbe73.out
                    have HEB:=Lib.hid hes;have HES:=Lib.hid hes2
                    clear hes hes2
                    have hup:=run_kind HEB.out r 2
                    go_wp2_with fail
                    go_roundg f
                    case measure=>omega
                    case rel=>
                      refine inv_at (fun W=>Keeps [(w.heap.size)] e73 W∧W.heap[(w.heap.size)]? =some (.map (ents tval (kput r (.int .i64 2) ek es).1) (kput r (.int .i64 2) ek es).2)) ⟨(by with_reducible repeat (first|exact k0 _ _|refine kA ?_ _|refine kD ?_|refine kS ?_ (by simp)|refine kM ?_ (by simp))),(by simp only [hS,hA,hD,hM,reduceIte,Option.map_some,Obj.put,HEB.out,Nat.ne_of_lt l_kb,Nat.ne_of_gt l_kb]<;>rfl)⟩ ?_
                      rintro w74 ⟨Kw74,cw74_kb⟩
                      have Rw74_U:=Lib.hid (Kw74.at Re73_U.out (by simp [n_U_kb]))
                      have HCw74:=Lib.hid (HCe73.out.kp Kw74 (by simp [o0_kb]) (by simp [n_c_kb]) (by simp [n_mf_kb]) (by simp [n_ms_kb]) (by simp [n_mn_kb]) (by simp [(off_kb).2.2.2]))
                      have HSw74:=Lib.hid (HSe73.out.loc Kw74 (by simp [o_kb]))
                      have HKw74:=Lib.hid (HKe73.out.trans Kw74 (by simp [o_kb]))
                      have Rw74_kb:=Lib.hid cw74_kb
                      clear Kw74 cw74_kb l_c l_U l_mf l_ms l_mn l_kb Re73_U HCe73 HSe73 HKe73 HKkbe73
                      exact ⟨k+1,by first|rfl|(simp;done)|(simp;omega),by omega,by omega,_,hku,(KindW.put HES.out Rw74_kb.out).of HOF.out,HCw74.out,HKw74.out⟩
                  | false=>
                    rw [harr,if_neg (by simp)] at hku
                    have HOF:Hid (∀x,(if x=r then 1 else kof x kk)=kof x ((r,1)::kk)):=Lib.hid (fun x=>by rw [kof];by_cases h:x=r<;>simp [h,teq_iff])
                    have l_kb:=HKBwr.out.lt
                    obtain ⟨l_c,l_mf,l_ms,l_mn⟩:=HCwr.out.lt
                    go_wp2_with fail
                    refine calls_at (fun W=>Keeps [] wr W∧W.heap[wr.heap.size]? =some (.cells #[.complex .f64 u.re u.im,.int .i64 u.of.1,.string u.of.2,.bool false,.int .i64 u.param.1,.string u.param.2,.bool false,.bool false] 141 (0,0))) ⟨(by with_reducible repeat (first|exact k0 _ _|refine kA ?_ _|refine kD ?_|refine kS ?_ (by simp)|refine kM ?_ (by simp))),(by simp only [hS,hA,hD,hM,World.size_setCell,World.size_drew,reduceIte,Option.map_some,Obj.put]<;>rfl)⟩ ?_
                    rintro w71 ⟨Kw71,cw71_U⟩
                    have n_c_U:K.c≠wr.heap.size:=Nat.ne_of_lt l_c
                    have n_U_c:wr.heap.size≠K.c:=Nat.ne_of_gt l_c
                    have n_mf_U:K.mf≠wr.heap.size:=Nat.ne_of_lt l_mf
                    have n_U_mf:wr.heap.size≠K.mf:=Nat.ne_of_gt l_mf
                    have n_ms_U:K.ms≠wr.heap.size:=Nat.ne_of_lt l_ms
                    have n_U_ms:wr.heap.size≠K.ms:=Nat.ne_of_gt l_ms
                    have n_mn_U:K.mn≠wr.heap.size:=Nat.ne_of_lt l_mn
                    have n_U_mn:wr.heap.size≠K.mn:=Nat.ne_of_gt l_mn
                    have n_kb_U:(w.heap.size)≠wr.heap.size:=Nat.ne_of_lt l_kb
                    have n_U_kb:wr.heap.size≠(w.heap.size):=Nat.ne_of_gt l_kb
                    have o_U:w.heap.size≤wr.heap.size:=HSwr.out.size
                    have off_U:Off K T (wr.heap.size):=off_new HCwr.out (Nat.le_refl _)
                    have o0_U:K.w0.heap.size≤wr.heap.size:=Nat.le_trans HCwr.out.keep.size (Nat.le_refl _)
                    have HCw71:=Lib.hid (HCwr.out.kp0 Kw71)
                    have HSw71:=Lib.hid (HSwr.out.loc Kw71 (by simp))
                    have HKw71:=Lib.hid (HKwr.out.trans Kw71 (by simp))
                    have HKkbw71:=Lib.hid (HKBwr.out.keep Kw71 (by simp))
                    have Rw71_U:=Lib.hid cw71_U
                    clear Kw71 cw71_U l_c l_mf l_ms l_mn l_kb HCwr HSwr HKwr HKBwr
                    refine (root_any HCw71.out HRT.out).mono ?_
                    rintro r e72 ⟨rfl,hk⟩
                    have Re72_U:=Lib.hid (hk.at Rw71_U.out (by simp))
                    have HCe72:=Lib.hid (HCw71.out.kp0 hk)
                    have HSe72:=Lib.hid (HSw71.out.loc hk (by simp))
                    have HKe72:=Lib.hid (HKw71.out.trans hk (by simp))
                    have HKkbe72:=Lib.hid (HKkbw71.out.keep hk (by simp))
                    clear hk Rw71_U HCw71 HSw71 HKw71 HKkbw71
                    have l_kb:=HKkbe72.out.lt
                    obtain ⟨l_c,l_mf,l_ms,l_mn⟩:=HCe72.out.lt
                    obtain ⟨l_U,xU_0,xU_1,xU_2,xU_3,xU_4,xU_5,xU_6,xU_7,yU_0,yU_1,yU_2,yU_3,yU_4,yU_5,yU_6,yU_7⟩:=cf8 Re72_U.out
                    have hlk2:=HKkbe72.out.look r (n:=kn) HKN.out
                    go_wp2_with fail
                    clear l_c l_U xU_0 xU_1 xU_2 xU_3 xU_4 xU_5 xU_6 xU_7 yU_0 yU_1 yU_2 yU_3 yU_4 yU_5 yU_6 yU_7 l_mf l_ms l_mn l_kb
                    refine (root_any HCe72.out HRT.out).mono ?_
                    rintro r e73 ⟨rfl,hk⟩
                    have Re73_U:=Lib.hid (hk.at Re72_U.out (by simp))
                    have HCe73:=Lib.hid (HCe72.out.kp0 hk)
                    have HSe73:=Lib.hid (HSe72.out.loc hk (by simp))
                    have HKe73:=Lib.hid (HKe72.out.trans hk (by simp))
                    have HKkbe73:=Lib.hid (HKkbe72.out.keep hk (by simp))
                    clear hk Re72_U HCe72 HSe72 HKe72 HKkbe72
                    have l_kb:=HKkbe73.out.lt
                    obtain ⟨l_c,l_mf,l_ms,l_mn⟩:=HCe73.out.lt
                    have l_U:=h_lt Re73_U.out
                    obtain ⟨es,ek,hes,hes2⟩:=HKkbe73.out
                    have HEB:=Lib.hid hes;have HES:=Lib.hid hes2
                    clear hes hes2
                    have hup:=run_kind HEB.out r 1
                    go_wp2_with fail
                    go_roundg f
                    case measure=>omega
                    case rel=>
                      refine inv_at (fun W=>Keeps [(w.heap.size)] e73 W∧W.heap[(w.heap.size)]? =some (.map (ents tval (kput r (.int .i64 1) ek es).1) (kput r (.int .i64 1) ek es).2)) ⟨(by with_reducible repeat (first|exact k0 _ _|refine kA ?_ _|refine kD ?_|refine kS ?_ (by simp)|refine kM ?_ (by simp))),(by simp only [hS,hA,hD,hM,reduceIte,Option.map_some,Obj.put,HEB.out,Nat.ne_of_lt l_kb,Nat.ne_of_gt l_kb]<;>rfl)⟩ ?_
                      rintro w74 ⟨Kw74,cw74_kb⟩
                      have Rw74_U:=Lib.hid (Kw74.at Re73_U.out (by simp [n_U_kb]))
                      have HCw74:=Lib.hid (HCe73.out.kp Kw74 (by simp [o0_kb]) (by simp [n_c_kb]) (by simp [n_mf_kb]) (by simp [n_ms_kb]) (by simp [n_mn_kb]) (by simp [(off_kb).2.2.2]))
                      have HSw74:=Lib.hid (HSe73.out.loc Kw74 (by simp [o_kb]))
                      have HKw74:=Lib.hid (HKe73.out.trans Kw74 (by simp [o_kb]))
                      have Rw74_kb:=Lib.hid cw74_kb
                      clear Kw74 cw74_kb l_c l_U l_mf l_ms l_mn l_kb Re73_U HCe73 HSe73 HKe73 HKkbe73
                      exact ⟨k+1,by first|rfl|(simp;done)|(simp;omega),by omega,by omega,_,hku,(KindW.put HES.out Rw74_kb.out).of HOF.out,HCw74.out,HKw74.out⟩
        · have hke:k=st.uses.length:=by omega
          rw [hke,List.drop_length,kindsU] at hku
          obtain rfl:kk=kf:=by simpa using hku
          clear hku hke
          have l_kb:=HKBwr.out.lt
          obtain ⟨l_c,l_mf,l_ms,l_mn⟩:=HCwr.out.lt
          go_wp2_with fail
          refine ret_at (v:= .map (some w.heap.size)) (fun W=>Keeps [] wr W) (by with_reducible repeat (first|exact k0 _ _|refine kA ?_ _|refine kD ?_|refine kS ?_ (by simp)|refine kM ?_ (by simp))) (fun w71 hW=> ?_) rfl (fun w71 hW=> ?_)
          · have Kw71:Keeps [] wr w71:=hW
            simp [results,Tryz.results67,go_sem]
          · have Kw71:Keeps [] wr w71:=hW
            have HCw71:=Lib.hid (HCwr.out.kp0 Kw71)
            have HSw71:=Lib.hid (HSwr.out.loc Kw71 (by simp))
            have HKw71:=Lib.hid (HKwr.out.trans Kw71 (by simp))
            have HKkbw71:=Lib.hid (HKBwr.out.keep Kw71 (by simp))
            clear Kw71 l_c l_mf l_ms l_mn l_kb HCwr HSwr HKwr HKBwr
            exact ⟨_,rfl,Nat.le_refl _,HKkbw71.out,HKw71.out⟩
    · have hent :=hrn.entry
      have lwn:wo.heap.size=wn.heap.size:=hszn.symm
      have HCwn:=Lib.hid (CK.news HC0.out HCwo.out hkn (by simp;exact hw1));have HKBwn:=Lib.hid (HKBwo.out.keep hkn (by simp [n_kb_it]));have HKwn:=Lib.hid (HKwo.out.trans hkn (by simp;exact hw1));have HRwn:=Lib.hid hrn
      have HSwn:=Lib.hid ((CStep.refl K T w).loc HKwn.out (by simp))
      have HRO1:=HRO.out t ht
      clear hrs hrn hkn lwn hszn HCwo HKBwo HKwo HSwo
      have n_mn_it:K.mn≠w1.heap.size:=fun e=>by have:=HC0.out.lt;omega
      cases gk with
      |zero=>omega
      | succ m=>
        by_cases h0:t.1=0
        · have d0:((t.1:Int)==0)=true:=by simp [h0]
          have d1:(t.1==0)=true:=by simp [h0]
          cases hsp:specialF t.2 with
          | true=>
            obtain ⟨r,hrr⟩:∃r,r=rootD st t:=⟨_,rfl⟩
            have hgs:spG t=true:=by simp [spG,h0,hsp]
            have HRT:Hid (rootN st t=some r):=Lib.hid (by rw [hrr];exact HRO1 hgs)
            have HOF:Hid (∀x,(if x=r then 1 else if p.any (spK st x)=true then 1 else 0)=if (p++ [t]).any (spK st x)=true then 1 else 0):=Lib.hid (fun x=>by
              have e:spK st x t=teq x r:=by unfold spK;rw [hgs,←hrr];rfl
              simp only [List.any_append,List.any_cons,List.any_nil,Bool.or_false,e]
              by_cases h:x=r
              · simp [h,teq_iff.2 rfl]
              · have:teq x r=false:=by cases h2:teq x r with|false=>rfl|true=>exact absurd (teq_iff.1 h2) h
                rw [if_neg h,this,Bool.or_false])
            clear hrr hgs HRO1 h0
            have l_kb:=HKBwn.out.lt
            obtain ⟨l_c,l_mf,l_ms,l_mn⟩:=HCwn.out.lt
            go_wp2_with fail
            refine calls_at (fun W=>Keeps [] wn W∧W.heap[wn.heap.size]? =some (.cells #[.int .i64 t.1,.string t.2] 137 (0,0))) ⟨(by with_reducible repeat (first|exact k0 _ _|refine kA ?_ _|refine kD ?_|refine kS ?_ (by simp)|refine kM ?_ (by simp))),(by simp only [hS,hA,hD,hM,World.size_setCell,World.size_drew,reduceIte,Option.map_some,Obj.put]<;>rfl)⟩ ?_
            rintro w51 ⟨Kw51,cw51_B⟩
            have n_c_B:K.c≠wn.heap.size:=Nat.ne_of_lt l_c
            have n_B_c:wn.heap.size≠K.c:=Nat.ne_of_gt l_c
            have n_mf_B:K.mf≠wn.heap.size:=Nat.ne_of_lt l_mf
            have n_B_mf:wn.heap.size≠K.mf:=Nat.ne_of_gt l_mf
            have n_ms_B:K.ms≠wn.heap.size:=Nat.ne_of_lt l_ms
            have n_B_ms:wn.heap.size≠K.ms:=Nat.ne_of_gt l_ms
            have n_mn_B:K.mn≠wn.heap.size:=Nat.ne_of_lt l_mn
            have n_B_mn:wn.heap.size≠K.mn:=Nat.ne_of_gt l_mn
            have n_kb_B:(w.heap.size)≠wn.heap.size:=Nat.ne_of_lt l_kb
            have n_B_kb:wn.heap.size≠(w.heap.size):=Nat.ne_of_gt l_kb
            have o_B:w.heap.size≤wn.heap.size:=HSwn.out.size
            have off_B:Off K T (wn.heap.size):=off_new HCwn.out (Nat.le_refl _)
            have o0_B:K.w0.heap.size≤wn.heap.size:=Nat.le_trans HCwn.out.keep.size (Nat.le_refl _)
            have HCw51:=Lib.hid (HCwn.out.kp0 Kw51)
            have HSw51:=Lib.hid (HSwn.out.loc Kw51 (by simp))
            have HKw51:=Lib.hid (HKwn.out.trans Kw51 (by simp))
            have HKkbw51:=Lib.hid (HKBwn.out.keep Kw51 (by simp))
            have HRw51:=Lib.hid (HRwn.out.keep Kw51 (by simp) (by simp))
            have Rw51_B:=Lib.hid cw51_B
            clear Kw51 cw51_B l_c l_mf l_ms l_mn l_kb HCwn HSwn HKwn HKBwn HRwn
            refine (special_any t.2 _).mono ?_
            rintro r w' ⟨rfl,hw'⟩
            rw [hw']
            clear hw'
            have l_kb:=HKkbw51.out.lt
            obtain ⟨l_c,l_mf,l_ms,l_mn⟩:=HCw51.out.lt
            obtain ⟨l_B,xB_0,xB_1,yB_0,yB_1⟩:=cf2 Rw51_B.out
            go_wp2_with fail
            clear l_c l_B xB_0 xB_1 yB_0 yB_1 l_mf l_ms l_mn l_kb
            refine (root_any HCw51.out HRT.out).mono ?_
            rintro r e52 ⟨rfl,hk⟩
            have Re52_B:=Lib.hid (hk.at Rw51_B.out (by simp))
            have HCe52:=Lib.hid (HCw51.out.kp0 hk)
            have HSe52:=Lib.hid (HSw51.out.loc hk (by simp))
            have HKe52:=Lib.hid (HKw51.out.trans hk (by simp))
            have HKkbe52:=Lib.hid (HKkbw51.out.keep hk (by simp))
            have HRe52:=Lib.hid (HRw51.out.keep hk (by simp) (by simp))
            clear hk Rw51_B HCw51 HSw51 HKw51 HKkbw51 HRw51
            have l_kb:=HKkbe52.out.lt
            obtain ⟨l_c,l_mf,l_ms,l_mn⟩:=HCe52.out.lt
            have l_B:=h_lt Re52_B.out
            obtain ⟨es,ek,hes,hes2⟩:=HKkbe52.out
            have HEB:=Lib.hid hes;have HES:=Lib.hid hes2
            clear hes hes2
            have hup:=run_kind HEB.out r 1
            go_wp2_with fail
            go_roundg m
            case measure=>omega
            case rel=>
              refine inv_at (fun W=>Keeps [(w.heap.size)] e52 W∧W.heap[(w.heap.size)]? =some (.map (ents tval (kput r (.int .i64 1) ek es).1) (kput r (.int .i64 1) ek es).2)) ⟨(by with_reducible repeat (first|exact k0 _ _|refine kA ?_ _|refine kD ?_|refine kS ?_ (by simp)|refine kM ?_ (by simp))),(by simp only [hS,hA,hD,hM,reduceIte,Option.map_some,Obj.put,HEB.out,Nat.ne_of_lt l_kb,Nat.ne_of_gt l_kb]<;>rfl)⟩ ?_
              rintro w53 ⟨Kw53,cw53_kb⟩
              have Rw53_B:=Lib.hid (Kw53.at Re52_B.out (by simp [n_B_kb]))
              have HCw53:=Lib.hid (HCe52.out.kp Kw53 (by simp [o0_kb]) (by simp [n_c_kb]) (by simp [n_mf_kb]) (by simp [n_ms_kb]) (by simp [n_mn_kb]) (by simp [(off_kb).2.2.2]))
              have HSw53:=Lib.hid (HSe52.out.loc Kw53 (by simp [o_kb]))
              have HKw53:=Lib.hid (HKe52.out.trans Kw53 (by simp [o_kb]))
              have HRw53:=Lib.hid (HRe52.out.keep Kw53 (by simp [n_mn_kb]) (by simp [n_it_kb]))
              have Rw53_kb:=Lib.hid cw53_kb
              clear Kw53 cw53_kb l_c l_B l_mf l_ms l_mn l_kb Re52_B HCe52 HSe52 HKe52 HKkbe52 HRe52
              exact ⟨p++ [t],n2,HRw53.out,by omega,(KindW.put HES.out Rw53_kb.out).of HOF.out,HCw53.out,HKw53.out⟩
          | false=>
            have HOF:Hid (∀x,(if p.any (spK st x)=true then 1 else 0)=if (p++ [t]).any (spK st x)=true then 1 else 0):=Lib.hid (fun x=>by
              have e:spK st x t=false:=by unfold spK spG;rw [hsp];simp
              simp only [List.any_append,List.any_cons,List.any_nil,Bool.or_false,e])
            clear HRO1 h0
            have l_kb:=HKBwn.out.lt
            obtain ⟨l_c,l_mf,l_ms,l_mn⟩:=HCwn.out.lt
            go_wp2_with fail
            refine calls_at (fun W=>Keeps [] wn W∧W.heap[wn.heap.size]? =some (.cells #[.int .i64 t.1,.string t.2] 137 (0,0))) ⟨(by with_reducible repeat (first|exact k0 _ _|refine kA ?_ _|refine kD ?_|refine kS ?_ (by simp)|refine kM ?_ (by simp))),(by simp only [hS,hA,hD,hM,World.size_setCell,World.size_drew,reduceIte,Option.map_some,Obj.put]<;>rfl)⟩ ?_
            rintro w51 ⟨Kw51,cw51_B⟩
            have n_c_B:K.c≠wn.heap.size:=Nat.ne_of_lt l_c
            have n_B_c:wn.heap.size≠K.c:=Nat.ne_of_gt l_c
            have n_mf_B:K.mf≠wn.heap.size:=Nat.ne_of_lt l_mf
            have n_B_mf:wn.heap.size≠K.mf:=Nat.ne_of_gt l_mf
            have n_ms_B:K.ms≠wn.heap.size:=Nat.ne_of_lt l_ms
            have n_B_ms:wn.heap.size≠K.ms:=Nat.ne_of_gt l_ms
            have n_mn_B:K.mn≠wn.heap.size:=Nat.ne_of_lt l_mn
            have n_B_mn:wn.heap.size≠K.mn:=Nat.ne_of_gt l_mn
            have n_kb_B:(w.heap.size)≠wn.heap.size:=Nat.ne_of_lt l_kb
            have n_B_kb:wn.heap.size≠(w.heap.size):=Nat.ne_of_gt l_kb
            have o_B:w.heap.size≤wn.heap.size:=HSwn.out.size
            have off_B:Off K T (wn.heap.size):=off_new HCwn.out (Nat.le_refl _)
            have o0_B:K.w0.heap.size≤wn.heap.size:=Nat.le_trans HCwn.out.keep.size (Nat.le_refl _)
            have HCw51:=Lib.hid (HCwn.out.kp0 Kw51)
            have HSw51:=Lib.hid (HSwn.out.loc Kw51 (by simp))
            have HKw51:=Lib.hid (HKwn.out.trans Kw51 (by simp))
            have HKkbw51:=Lib.hid (HKBwn.out.keep Kw51 (by simp))
            have HRw51:=Lib.hid (HRwn.out.keep Kw51 (by simp) (by simp))
            have Rw51_B:=Lib.hid cw51_B
            clear Kw51 cw51_B l_c l_mf l_ms l_mn l_kb HCwn HSwn HKwn HKBwn HRwn
            refine (special_any t.2 _).mono ?_
            rintro r w' ⟨rfl,hw'⟩
            rw [hw']
            clear hw'
            have l_kb:=HKkbw51.out.lt
            obtain ⟨l_c,l_mf,l_ms,l_mn⟩:=HCw51.out.lt
            have l_B:=h_lt Rw51_B.out
            go_wp2_with fail
            go_roundg m
            case measure=>omega
            case rel=>
              exact ⟨p++ [t],n2,HRw51.out,by omega,HKkbw51.out.of HOF.out,HCw51.out,HKw51.out⟩
        · have d0:((t.1:Int)==0)=false:=by simp;omega
          have d1:(t.1==0)=false:=by simp [h0]
          have HOF:Hid (∀x,(if p.any (spK st x)=true then 1 else 0)=if (p++ [t]).any (spK st x)=true then 1 else 0):=Lib.hid (fun x=>by
            have e:spK st x t=false:=by unfold spK spG;simp [h0]
            simp only [List.any_append,List.any_cons,List.any_nil,Bool.or_false,e])
          clear HRO1 h0
          have l_kb:=HKBwn.out.lt
          obtain ⟨l_c,l_mf,l_ms,l_mn⟩:=HCwn.out.lt
          go_wp2_with fail
          go_roundg m
          case measure=>omega
          case rel=>
            refine inv_at (fun W=>Keeps [] wn W∧W.heap[wn.heap.size]? =some (.cells #[.int .i64 t.1,.string t.2] 137 (0,0))) ⟨(by with_reducible repeat (first|exact k0 _ _|refine kA ?_ _|refine kD ?_|refine kS ?_ (by simp)|refine kM ?_ (by simp))),(by simp only [hS,hA,hD,hM,World.size_setCell,World.size_drew,reduceIte,Option.map_some,Obj.put]<;>rfl)⟩ ?_
            rintro w51 ⟨Kw51,cw51_B⟩
            have n_c_B:K.c≠wn.heap.size:=Nat.ne_of_lt l_c
            have n_B_c:wn.heap.size≠K.c:=Nat.ne_of_gt l_c
            have n_mf_B:K.mf≠wn.heap.size:=Nat.ne_of_lt l_mf
            have n_B_mf:wn.heap.size≠K.mf:=Nat.ne_of_gt l_mf
            have n_ms_B:K.ms≠wn.heap.size:=Nat.ne_of_lt l_ms
            have n_B_ms:wn.heap.size≠K.ms:=Nat.ne_of_gt l_ms
            have n_mn_B:K.mn≠wn.heap.size:=Nat.ne_of_lt l_mn
            have n_B_mn:wn.heap.size≠K.mn:=Nat.ne_of_gt l_mn
            have n_kb_B:(w.heap.size)≠wn.heap.size:=Nat.ne_of_lt l_kb
            have n_B_kb:wn.heap.size≠(w.heap.size):=Nat.ne_of_gt l_kb
            have o_B:w.heap.size≤wn.heap.size:=HSwn.out.size
            have off_B:Off K T (wn.heap.size):=off_new HCwn.out (Nat.le_refl _)
            have o0_B:K.w0.heap.size≤wn.heap.size:=Nat.le_trans HCwn.out.keep.size (Nat.le_refl _)
            have HCw51:=Lib.hid (HCwn.out.kp0 Kw51)
            have HSw51:=Lib.hid (HSwn.out.loc Kw51 (by simp))
            have HKw51:=Lib.hid (HKwn.out.trans Kw51 (by simp))
            have HKkbw51:=Lib.hid (HKBwn.out.keep Kw51 (by simp))
            have HRw51:=Lib.hid (HRwn.out.keep Kw51 (by simp) (by simp))
            have Rw51_B:=Lib.hid cw51_B
            clear Kw51 cw51_B l_c l_mf l_ms l_mn l_kb HCwn HSwn HKwn HKBwn HRwn
            exact ⟨p++ [t],n2,HRw51.out,by omega,HKkbw51.out.of HOF.out,HCw51.out,HKw51.out⟩
end Go.Proofs.YteafcepaolofpaaGreatDoor
