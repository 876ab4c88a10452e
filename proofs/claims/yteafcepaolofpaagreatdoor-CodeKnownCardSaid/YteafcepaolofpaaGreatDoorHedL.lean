/- Texts of this claim, joined: NodA, HedL. -/
import Derived.Test.YteafcepaolofpaaGreatDoorSortL
set_option maxRecDepth 100000
set_option maxHeartbeats 4000000
set_option linter.unusedSimpArgs false
set_option linter.unusedVariables false
set_option linter.unusedSectionVars false
section
/- all, walked. Made by a program (check.py, walk.py). -/
namespace Go.Proofs.YteafcepaolofpaaGreatDoor
open Go.RowKit

/-- A rule of the program, in whatever world of the checker's. -/
theorem CK.rule{K:CKey}(hK:CFix K){T:Nat→Prop}{ua:Option Addr}{uc:Nat}{st:NS}{W:World}(h:CK K T ua uc st W){i:Nat}(hi:i<K.g.rules.length):
    ∃ g o pa pc b0 b1 b2 b3 b4,K.ra=some ⟨g,o,none⟩∧W.cell? ⟨g,o+i*9,none⟩=some (.int .i64 K.g.rules[i].kind)∧W.cell? ⟨g,o+i*9+1,none⟩=some (.int .i64 K.g.rules[i].n)∧W.cell? ⟨g,o+i*9+2,none⟩=some (.slice pa K.g.rules[i].pats.length pc)∧W.cell? ⟨g,o+i*9+3,none⟩=some b0∧W.cell? ⟨g,o+i*9+4,none⟩=some b1∧W.cell? ⟨g,o+i*9+5,none⟩=some b2∧W.cell? ⟨g,o+i*9+6,none⟩=some b3∧
      W.cell? ⟨g,o+i*9+7,none⟩=some b4∧W.cell? ⟨g,o+i*9+8,none⟩=some (.complex .f64 K.g.rules[i].re K.g.rules[i].im)∧KidsR K.w0 (fun _=>True) K.g.rules[i].pats (.slice pa K.g.rules[i].pats.length pc)∧NodeR K.w0 (fun _=>True) K.g.rules[i].body (.agg #[b0,b1,b2,b3,b4]):=by
  obtain ⟨g,o,cap,c,hv,-,hg,⟨pa,pc,b0,b1,b2,b3,b4,rfl,hp,hn⟩,hc⟩:=hK.rules.get ruleL hi
  have hc':∀j u,[.int .i64 K.g.rules[i].kind,.int .i64 K.g.rules[i].n,.slice pa K.g.rules[i].pats.length pc,b0,b1,b2,b3,b4,.complex .f64 K.g.rules[i].re K.g.rules[i].im][j]? =some u→W.cell? ⟨g,o+i*9+j,none⟩=some u:=fun j u hj=>by
    rw [World.cell?_of_block (w:=K.w0) (a:=⟨g,o+i*9+j,none⟩) (h.keep.block g hg (by simp)),Nat.add_assoc];exact hc j u hj
  have hra:K.ra=some ⟨g,o,none⟩:=by injection hv
  exact ⟨g,o,pa,pc,b0,b1,b2,b3,b4,hra,hc' 0 _ rfl,hc' 1 _ rfl,hc' 2 _ rfl,hc' 3 _ rfl,hc' 4 _ rfl,hc' 5 _ rfl,hc' 6 _ rfl,hc' 7 _ rfl,hc' 8 _ rfl,hp,hn⟩
def AllR(K:CKey)(rec:NRec)(st':NS)(T0:Nat→Prop)(w:World)(g:Nat)(j:Value)(W:World):Prop:=
  ∃k:Nat,j= .int .i64 k∧k≤K.g.rules.length∧g+k=K.g.rules.length+1∧∃st T ua uc,allR rec (K.g.rules.drop k) st=some st'∧CK K T ua uc st W∧CStep K T0 T w W
def AllP(K:CKey)(rec:NRec)(pats:List Node)(st':NS)(T0:Nat→Prop)(w:World)(B:Nat)(ob:Obj)(g:Nat)(j:Value)(W:World):Prop:=
  ∃k:Nat,j= .int .i64 k∧k≤pats.length∧g+k=pats.length+1∧∃st T ua uc,patsF rec (pats.drop k) st=some st'∧CK K T ua uc st W∧CStep K T0 T w W∧W.heap[B]? =some ob∧Off K T B
def AllFn(K:CKey)(rec:NRec)(st':NS)(T0:Nat→Prop)(w:World)(g:Nat)(j:Value)(W:World):Prop:=
  ∃k:Nat,j= .int .i64 k∧k≤K.g.funcs.length∧g+k=K.g.funcs.length+1∧∃st T ua uc,allF rec k (K.g.funcs.drop k) st=some st'∧CK K T ua uc st W∧CStep K T0 T w W

theorem all_any{K:CKey}(hK:CFix K){T:Nat→Prop}{ua:Option Addr}{uc:Nat}{st:NS}{w:World}(h:CK K T ua uc st w){rec:NRec}{s1 st':NS}(hrec:NodeC K rec)(har:allR rec K.g.rules st=some s1)(haf:allF rec 0 K.g.funcs s1=some st'):
    Calls Tryz.prog 29 #[.pointer (some ⟨K.c,0,none⟩)] w fun r w'=>∃T' ua' uc',r= .returned (.tuple #[])∧CK K T' ua' uc' (st') w'∧CStep K T T' w w':=by
  have hrs:=hK.rsmall
  have hfs:=hK.small
  have HC0:=Lib.hid h;have HS0:=Lib.hid (CStep.refl K T w);have HREC:=Lib.hid hrec;have HAR:=Lib.hid har;have HAF:=Lib.hid haf
  clear h hrec har haf
  go_enter Tryz.func29,Tryz.ntmps29
  obtain ⟨l_c,xc_0,xc_1,xc_2,xc_3,xc_4,xc_5,xc_6,xc_7,xc_8,xc_9,xc_10,yc_0,yc_1,yc_2,yc_3,yc_4,yc_5,yc_6,yc_7,yc_8,yc_9,yc_10⟩:=cf11 HC0.out.row
  obtain ⟨-,l_mf,l_ms,l_mn⟩:=HC0.out.lt
  obtain ⟨ra,hra0⟩:∃x,K.ra=x:=⟨_,rfl⟩
  rw [hra0] at xc_0
  have HRA0:=Lib.hid hra0
  clear hra0
  go_wp2_with fail
  clear l_c xc_0 xc_1 xc_2 xc_3 xc_4 xc_5 xc_6 xc_7 xc_8 xc_9 xc_10 yc_0 yc_1 yc_2 yc_3 yc_4 yc_5 yc_6 yc_7 yc_8 yc_9 yc_10 l_mf l_ms l_mn
  go_loopg [14] (K.g.rules.length+1) (fun g j wr=>AllR K rec s1 T w g j wr)
  case atStart=>exact ⟨0,rfl,Nat.zero_le _,rfl,_,_,_,_,HAR.out,HC0.out,HS0.out⟩
  case round=>
    rename World=>wo
    obtain ⟨k,rfl,hk1,hk2,st1,T1,ua1,uc1,har,hc,hs⟩:=hrel
    have HCr:=Lib.hid hc;have HSr:=Lib.hid hs
    clear hc hs
    by_cases hlt:k<K.g.rules.length
    · obtain ⟨g,o,pa,pc,b0,b1,b2,b3,b4,hra,c0,c1,c2,c3,c4,c5,c6,c7,c8,hkp,hnb⟩:=CK.rule hK HCr.out hlt
      obtain ⟨fmb,nab,ncb,hvb,-⟩:=hnb.kids
      simp only [Value.agg.injEq,Array.mk.injEq,List.cons.injEq,and_true] at hvb
      obtain ⟨rfl,rfl,rfl,rfl,rfl⟩:=hvb
      have hps:K.g.rules[k].pats.length≤1000000:=hK.tsmall _ (List.getElem_mem hlt)
      have lg:g<wo.heap.size:=lt_cell c0
      rw [List.drop_eq_getElem_cons hlt,allR] at har
      generalize K.g.rules[k]=ru at*
      simp only [Option.bind_eq_bind,Option.bind_eq_some_iff] at har
      obtain ⟨s2,hp,s3,hb,har⟩:=har
      have HPF:=Lib.hid hp;have HKP:=Lib.hid hkp
      have era:=HRA0.out.symm.trans hra
      subst era
      clear hp hkp hra
      cases gk with
      |zero=>omega
      | succ f=>
        obtain ⟨l_c,xc_0,xc_1,xc_2,xc_3,xc_4,xc_5,xc_6,xc_7,xc_8,xc_9,xc_10,yc_0,yc_1,yc_2,yc_3,yc_4,yc_5,yc_6,yc_7,yc_8,yc_9,yc_10⟩:=cf11 HCr.out.row
        obtain ⟨-,l_mf,l_ms,l_mn⟩:=HCr.out.lt
        go_wp2_with fail
        refine wp_at (fun W=>Keeps [K.c] wo W∧W.heap[K.c]? =some (.cells #[.slice K.ra K.g.rules.length K.rc,.slice K.fa K.g.funcs.length K.fc,.map (some K.mf),.int .i64 st1.fn,.int .i64 ru.kind,.int .i64 0,.slice ua1 st1.uses.length uc1,.map (some K.ms),.map (some K.mn),.complex .f64 st1.re st1.im,.int .i64 st1.e] 92 (0,0))∧W.heap[wo.heap.size]? =some (.cells #[.int .i64 ru.kind,.int .i64 ru.n,.slice pa ru.pats.length pc,.int .i64 ru.body.kind,.string ru.body.name,.float .f64 fmb,.slice nab ru.body.kids.length ncb,.complex .f64 ru.body.re ru.body.im,.complex .f64 ru.re ru.im] 60 (0,0))) ⟨(by with_reducible repeat (first|exact k0 _ _|refine kA ?_ _|refine kD ?_|refine kS ?_ (by simp)|refine kM ?_ (by simp))),(by simp only [hS,hA,hD,hM,World.size_setCell,World.size_drew,reduceIte,Option.map_some,Obj.put,HCr.out.row,Nat.ne_of_lt l_c,Nat.ne_of_gt l_c]<;>rfl),(by simp only [hS,hA,hD,hM,World.size_setCell,World.size_drew,reduceIte,Option.map_some,Obj.put,HCr.out.row,Nat.ne_of_lt l_c,Nat.ne_of_gt l_c]<;>rfl)⟩ ?_
        rintro w51 ⟨Kw51,cw51_c,cw51_Ru⟩
        have n_c_Ru:K.c≠wo.heap.size:=Nat.ne_of_lt l_c
        have n_Ru_c:wo.heap.size≠K.c:=Nat.ne_of_gt l_c
        have n_mf_Ru:K.mf≠wo.heap.size:=Nat.ne_of_lt l_mf
        have n_Ru_mf:wo.heap.size≠K.mf:=Nat.ne_of_gt l_mf
        have n_ms_Ru:K.ms≠wo.heap.size:=Nat.ne_of_lt l_ms
        have n_Ru_ms:wo.heap.size≠K.ms:=Nat.ne_of_gt l_ms
        have n_mn_Ru:K.mn≠wo.heap.size:=Nat.ne_of_lt l_mn
        have n_Ru_mn:wo.heap.size≠K.mn:=Nat.ne_of_gt l_mn
        have o_Ru:w.heap.size≤wo.heap.size:=HSr.out.size
        have off_Ru:Off K T1 (wo.heap.size):=off_new HCr.out (Nat.le_refl _)
        have o0_Ru:K.w0.heap.size≤wo.heap.size:=Nat.le_trans HCr.out.keep.size (Nat.le_refl _)
        have HCw51:Hid (CK K T1 ua1 uc1 ({st1 with rule:=ru.kind,loops:=0}) w51):=Lib.hid (HCr.out.upd hK Kw51 cw51_c (by simp) (by simp) (by simp) (by simp) (by simp) rfl rfl rfl HCr.out.fn (show (-1000000:Int)≤0∧(0:Int)≤1000000 from ⟨by omega,by omega⟩))
        have HSw51:=Lib.hid (HSr.out.loc Kw51 (by simp []))
        have Rw51_Ru:=Lib.hid cw51_Ru
        clear Kw51 cw51_c cw51_Ru l_c xc_0 xc_1 xc_2 xc_3 xc_4 xc_5 xc_6 xc_7 xc_8 xc_9 xc_10 yc_0 yc_1 yc_2 yc_3 yc_4 yc_5 yc_6 yc_7 yc_8 yc_9 yc_10 l_mf l_ms l_mn HCr HSr
        go_loopg [29] (ru.pats.length+1) (fun g j wp=>AllP K rec ru.pats s2 T w (wo.heap.size) (.cells #[.int .i64 ru.kind,.int .i64 ru.n,.slice pa ru.pats.length pc,.int .i64 ru.body.kind,.string ru.body.name,.float .f64 fmb,.slice nab ru.body.kids.length ncb,.complex .f64 ru.body.re ru.body.im,.complex .f64 ru.re ru.im] 60 (0,0)) g j wp)
        case atStart=>exact ⟨0,rfl,Nat.zero_le _,rfl,_,_,_,_,HPF.out,HCw51.out,HSw51.out,Rw51_Ru.out,off_Ru⟩
        case round=>
          obtain ⟨i,rfl,hi1,hi2,st2,T2,ua2,uc2,hpf,hc,hs,hB,off_Ru⟩:=hrel
          have HCp:=Lib.hid hc;have HSp:=Lib.hid hs;have RRu:=Lib.hid hB
          clear hc hs hB
          by_cases hlt2:i<ru.pats.length
          · obtain ⟨g3,o3,fm3,na3,nc3,hna,kc0,kc1,kc2,kc3,kc4,hkn⟩:=CK.kid HCp.out HKP.out hlt2
            subst hna
            have lg3:g3<wr.heap.size:=lt_cell kc0
            rw [List.drop_eq_getElem_cons hlt2,patsF] at hpf
            generalize ru.pats[i]=kk at*
            simp only [Option.bind_eq_bind,Option.bind_eq_some_iff] at hpf
            obtain ⟨s4,hr,hpf⟩:=hpf
            cases gk with
            |zero=>omega
            | succ f2=>
              obtain ⟨l_c,l_mf,l_ms,l_mn⟩:=HCp.out.lt
              have l_Ru:=h_lt RRu.out
              go_wp2_with fail
              refine calls_at (fun W=>Keeps [] wr W∧W.heap[wr.heap.size]? =some (.cells #[.int .i64 kk.kind,.string kk.name,.float .f64 fm3,.slice na3 kk.kids.length nc3,.complex .f64 kk.re kk.im] 58 (0,0))) ⟨(by with_reducible repeat (first|exact k0 _ _|refine kA ?_ _|refine kD ?_|refine kS ?_ (by simp)|refine kM ?_ (by simp))),(by simp only [hS,hA,hD,hM,World.size_setCell,World.size_drew,reduceIte,Option.map_some,Obj.put]<;>rfl)⟩ ?_
              rintro w71 ⟨Kw71,cw71_Kd⟩
              have n_c_Kd:K.c≠wr.heap.size:=Nat.ne_of_lt l_c
              have n_Kd_c:wr.heap.size≠K.c:=Nat.ne_of_gt l_c
              have n_mf_Kd:K.mf≠wr.heap.size:=Nat.ne_of_lt l_mf
              have n_Kd_mf:wr.heap.size≠K.mf:=Nat.ne_of_gt l_mf
              have n_ms_Kd:K.ms≠wr.heap.size:=Nat.ne_of_lt l_ms
              have n_Kd_ms:wr.heap.size≠K.ms:=Nat.ne_of_gt l_ms
              have n_mn_Kd:K.mn≠wr.heap.size:=Nat.ne_of_lt l_mn
              have n_Kd_mn:wr.heap.size≠K.mn:=Nat.ne_of_gt l_mn
              have n_Ru_Kd:wo.heap.size≠wr.heap.size:=Nat.ne_of_lt l_Ru
              have n_Kd_Ru:wr.heap.size≠wo.heap.size:=Nat.ne_of_gt l_Ru
              have o_Kd:w.heap.size≤wr.heap.size:=HSp.out.size
              have off_Kd:Off K T2 (wr.heap.size):=off_new HCp.out (Nat.le_refl _)
              have o0_Kd:K.w0.heap.size≤wr.heap.size:=Nat.le_trans HCp.out.keep.size (Nat.le_refl _)
              have Rw71_Ru:=Lib.hid (Kw71.at RRu.out (by simp))
              have HCw71:=Lib.hid (HCp.out.kp0 Kw71)
              have HSw71:=Lib.hid (HSp.out.loc Kw71 (by simp))
              have Rw71_Kd:=Lib.hid cw71_Kd
              clear Kw71 cw71_Kd l_c l_Ru l_mf l_ms l_mn RRu HCp HSp
              refine (HREC.out _ _ _ _ hr hkn _ _ _ _ HCw71.out).mono ?_
              rintro r e72 ⟨T72,ua72,uc72,rfl,hc,hs⟩
              have off2_Ru:=hs.off (h_lt Rw71_Ru.out) off_Ru
              have Re72_Ru:=Lib.hid (hs.at Rw71_Ru.out off_Ru)
              have off2_Kd:=hs.off (h_lt Rw71_Kd.out) off_Kd
              have Re72_Kd:=Lib.hid (hs.at Rw71_Kd.out off_Kd)
              have off_Ru':=off2_Ru
              have off_Kd':=off2_Kd
              have HCe72:=Lib.hid hc
              have HSe72:=Lib.hid (HSw71.out.trans hs)
              clear Rw71_Ru off_Ru Rw71_Kd off_Kd HCw71 HSw71 hc hs
              have off_Ru:=off_Ru'
              clear off_Ru' off2_Ru
              have off_Kd:=off_Kd'
              clear off_Kd' off2_Kd
              obtain ⟨l_c,l_mf,l_ms,l_mn⟩:=HCe72.out.lt
              have l_Ru:=h_lt Re72_Ru.out
              have l_Kd:=h_lt Re72_Kd.out
              go_wp2_with fail
              go_roundg f2
              case measure=>omega
              case rel=>
                exact ⟨i+1,by first|rfl|(simp;done)|(simp;omega),by omega,by omega,_,_,_,_,hpf,HCe72.out,HSe72.out,Re72_Ru.out,off_Ru⟩
          · have hie:i=ru.pats.length:=by omega
            subst hie
            rw [List.drop_length,patsF] at hpf
            obtain rfl:st2=s2:=by simpa using hpf
            clear hpf
            obtain ⟨l_c,l_mf,l_ms,l_mn⟩:=HCp.out.lt
            obtain ⟨l_Ru,xRu_0,xRu_1,xRu_2,xRu_3,xRu_4,xRu_5,xRu_6,xRu_7,xRu_8,yRu_0,yRu_1,yRu_2,yRu_3,yRu_4,yRu_5,yRu_6,yRu_7,yRu_8⟩:=cf9 RRu.out
            go_wp2_with fail
            clear l_c l_Ru xRu_0 xRu_1 xRu_2 xRu_3 xRu_4 xRu_5 xRu_6 xRu_7 xRu_8 yRu_0 yRu_1 yRu_2 yRu_3 yRu_4 yRu_5 yRu_6 yRu_7 yRu_8 l_mf l_ms l_mn
            refine (HREC.out _ _ _ _ hb hnb _ _ _ _ HCp.out).mono ?_
            rintro r e71 ⟨T71,ua71,uc71,rfl,hc,hs⟩
            have off2_Ru:=hs.off (h_lt RRu.out) off_Ru
            have Re71_Ru:=Lib.hid (hs.at RRu.out off_Ru)
            have off_Ru':=off2_Ru
            have HCe71:=Lib.hid hc
            have HSe71:=Lib.hid (HSp.out.trans hs)
            clear RRu off_Ru HCp HSp hc hs
            have off_Ru:=off_Ru'
            clear off_Ru' off2_Ru
            obtain ⟨l_c,l_mf,l_ms,l_mn⟩:=HCe71.out.lt
            have l_Ru:=h_lt Re71_Ru.out
            go_wp2_with fail
            go_roundg f
            case measure=>omega
            case rel=>
              exact ⟨k+1,by first|rfl|(simp;done)|(simp;omega),by omega,by omega,_,_,_,_,har,HCe71.out,HSe71.out⟩
    · have hke:k=K.g.rules.length:=by omega
      subst hke
      rw [List.drop_length,allR] at har
      obtain rfl:st1=s1:=by simpa using har
      clear har
      obtain ⟨l_c,xc_0,xc_1,xc_2,xc_3,xc_4,xc_5,xc_6,xc_7,xc_8,xc_9,xc_10,yc_0,yc_1,yc_2,yc_3,yc_4,yc_5,yc_6,yc_7,yc_8,yc_9,yc_10⟩:=cf11 HCr.out.row
      obtain ⟨-,l_mf,l_ms,l_mn⟩:=HCr.out.lt
      obtain ⟨fa,hfa0⟩:∃x,K.fa=x:=⟨_,rfl⟩
      rw [hfa0] at xc_1
      have HFA0:=Lib.hid hfa0
      clear hfa0
      go_wp2_with fail
      clear l_c xc_0 xc_1 xc_2 xc_3 xc_4 xc_5 xc_6 xc_7 xc_8 xc_9 xc_10 yc_0 yc_1 yc_2 yc_3 yc_4 yc_5 yc_6 yc_7 yc_8 yc_9 yc_10 l_mf l_ms l_mn
      go_loopg [48] (K.g.funcs.length+1) (fun g j wf=>AllFn K rec st' T w g j wf)
      case atStart=>exact ⟨0,rfl,Nat.zero_le _,rfl,_,_,_,_,HAF.out,HCr.out,HSr.out⟩
      case round=>
        obtain ⟨k,rfl,hk1,hk2,st3,T3,ua3,uc3,haf,hc,hs⟩:=hrel
        have HCf:=Lib.hid hc;have HSf:=Lib.hid hs
        clear hc hs
        by_cases hlt:k<K.g.funcs.length
        · obtain ⟨g,o,pa,pc,b0,b1,b2,b3,b4,hfa,c0,c1,c2,c3,c4,c5,c6,c7,hsp,hnb⟩:=CK.func hK HCf.out hlt
          obtain ⟨fmb,nab,ncb,hvb,-⟩:=hnb.kids
          simp only [Value.agg.injEq,Array.mk.injEq,List.cons.injEq,and_true] at hvb
          obtain ⟨rfl,rfl,rfl,rfl,rfl⟩:=hvb
          have lg:g<wr.heap.size:=lt_cell c0
          have efa:=HFA0.out.symm.trans hfa
          subst efa
          clear hfa
          rw [List.drop_eq_getElem_cons hlt,allF] at haf
          generalize K.g.funcs[k]=fu at*
          simp only [Option.bind_eq_bind,Option.bind_eq_some_iff] at haf
          obtain ⟨s3,hb,haf⟩:=haf
          cases gk with
          |zero=>omega
          | succ f=>
            obtain ⟨l_c,xc_0,xc_1,xc_2,xc_3,xc_4,xc_5,xc_6,xc_7,xc_8,xc_9,xc_10,yc_0,yc_1,yc_2,yc_3,yc_4,yc_5,yc_6,yc_7,yc_8,yc_9,yc_10⟩:=cf11 HCf.out.row
            obtain ⟨-,l_mf,l_ms,l_mn⟩:=HCf.out.lt
            go_wp2_with fail
            refine calls_at (fun W=>Keeps [K.c] wr W∧W.heap[K.c]? =some (.cells #[.slice K.ra K.g.rules.length K.rc,.slice K.fa K.g.funcs.length K.fc,.map (some K.mf),.int .i64 (k+1),.int .i64 st3.rule,.int .i64 0,.slice ua3 st3.uses.length uc3,.map (some K.ms),.map (some K.mn),.complex .f64 st3.re st3.im,.int .i64 st3.e] 92 (0,0))∧W.heap[wr.heap.size]? =some (.cells #[.string fu.name,.slice pa fu.params.length pc,.int .i64 fu.body.kind,.string fu.body.name,.float .f64 fmb,.slice nab fu.body.kids.length ncb,.complex .f64 fu.body.re fu.body.im,.complex .f64 fu.re fu.im] 67 (0,0))) ⟨(by with_reducible repeat (first|exact k0 _ _|refine kA ?_ _|refine kD ?_|refine kS ?_ (by simp)|refine kM ?_ (by simp))),(by simp only [hS,hA,hD,hM,World.size_setCell,World.size_drew,reduceIte,Option.map_some,Obj.put,HCf.out.row,Nat.ne_of_lt l_c,Nat.ne_of_gt l_c]<;>rfl),(by simp only [hS,hA,hD,hM,World.size_setCell,World.size_drew,reduceIte,Option.map_some,Obj.put,HCf.out.row,Nat.ne_of_lt l_c,Nat.ne_of_gt l_c]<;>rfl)⟩ ?_
            rintro w81 ⟨Kw81,cw81_c,cw81_Fu⟩
            have n_c_Fu:K.c≠wr.heap.size:=Nat.ne_of_lt l_c
            have n_Fu_c:wr.heap.size≠K.c:=Nat.ne_of_gt l_c
            have n_mf_Fu:K.mf≠wr.heap.size:=Nat.ne_of_lt l_mf
            have n_Fu_mf:wr.heap.size≠K.mf:=Nat.ne_of_gt l_mf
            have n_ms_Fu:K.ms≠wr.heap.size:=Nat.ne_of_lt l_ms
            have n_Fu_ms:wr.heap.size≠K.ms:=Nat.ne_of_gt l_ms
            have n_mn_Fu:K.mn≠wr.heap.size:=Nat.ne_of_lt l_mn
            have n_Fu_mn:wr.heap.size≠K.mn:=Nat.ne_of_gt l_mn
            have o_Fu:w.heap.size≤wr.heap.size:=HSf.out.size
            have off_Fu:Off K T3 (wr.heap.size):=off_new HCf.out (Nat.le_refl _)
            have o0_Fu:K.w0.heap.size≤wr.heap.size:=Nat.le_trans HCf.out.keep.size (Nat.le_refl _)
            have HCw81:Hid (CK K T3 ua3 uc3 ({st3 with fn:=k+1,loops:=0}) w81):=Lib.hid (HCf.out.upd hK Kw81 cw81_c (by simp) (by simp) (by simp) (by simp) (by simp) rfl rfl rfl (show k+1≤K.g.funcs.length from hlt) (show (-1000000:Int)≤0∧(0:Int)≤1000000 from ⟨by omega,by omega⟩))
            have HSw81:=Lib.hid (HSf.out.loc Kw81 (by simp []))
            have Rw81_Fu:=Lib.hid cw81_Fu
            clear Kw81 cw81_c cw81_Fu l_c xc_0 xc_1 xc_2 xc_3 xc_4 xc_5 xc_6 xc_7 xc_8 xc_9 xc_10 yc_0 yc_1 yc_2 yc_3 yc_4 yc_5 yc_6 yc_7 yc_8 yc_9 yc_10 l_mf l_ms l_mn HCf HSf
            refine (HREC.out _ _ _ _ hb hnb _ _ _ _ HCw81.out).mono ?_
            rintro r e82 ⟨T82,ua82,uc82,rfl,hc,hs⟩
            have off2_Fu:=hs.off (h_lt Rw81_Fu.out) off_Fu
            have Re82_Fu:=Lib.hid (hs.at Rw81_Fu.out off_Fu)
            have off_Fu':=off2_Fu
            have HCe82:=Lib.hid hc
            have HSe82:=Lib.hid (HSw81.out.trans hs)
            clear Rw81_Fu off_Fu HCw81 HSw81 hc hs
            have off_Fu:=off_Fu'
            clear off_Fu' off2_Fu
            obtain ⟨l_c,l_mf,l_ms,l_mn⟩:=HCe82.out.lt
            have l_Fu:=h_lt Re82_Fu.out
            go_wp2_with fail
            go_roundg f
            case measure=>omega
            case rel=>
              exact ⟨k+1,by first|rfl|(simp;done)|(simp;omega),by omega,by omega,_,_,_,_,haf,HCe82.out,HSe82.out⟩
        · have hke:k=K.g.funcs.length:=by omega
          subst hke
          rw [List.drop_length,allF] at haf
          obtain rfl:st3=st':=by simpa using haf
          clear haf
          obtain ⟨l_c,l_mf,l_ms,l_mn⟩:=HCf.out.lt
          go_wp2_with fail
          refine end_at (v:= .tuple #[]) (fun W=>Keeps [] wr W) (by with_reducible repeat (first|exact k0 _ _|refine kA ?_ _|refine kD ?_|refine kS ?_ (by simp)|refine kM ?_ (by simp))) (fun w81 hW=> ?_) rfl (fun w81 hW=> ?_)
          · have Kw81:Keeps [] wr w81:=hW
            simp [results,Tryz.results29,go_sem]
          · have Kw81:Keeps [] wr w81:=hW
            have HCw81:=Lib.hid (HCf.out.kp0 Kw81)
            have HSw81:=Lib.hid (HSf.out.loc Kw81 (by simp))
            clear Kw81 l_c l_mf l_ms l_mn HCf HSf
            exact ⟨_,_,_,rfl,HCw81.out,HSw81.out⟩
end Go.Proofs.YteafcepaolofpaaGreatDoor
end
section
/- heads: the plain laws. -/
namespace Go.Proofs.YteafcepaolofpaaGreatDoor
open Go.RowKit

/-- A function of the program, wherever the program still lies. -/
theorem func_at{K:CKey}(hK:CFix K){W:World}(hk:Keeps [] K.w0 W){i:Nat}(hi:i<K.g.funcs.length):
    ∃ g o pa pc fm na nc,K.fa=some ⟨g,o,none⟩∧W.cell? ⟨g,o+i*8,none⟩=some (.string K.g.funcs[i].name)∧W.cell? ⟨g,o+i*8+1,none⟩=some (.slice pa K.g.funcs[i].params.length pc)∧W.cell? ⟨g,o+i*8+2,none⟩=some (.int .i64 K.g.funcs[i].body.kind)∧W.cell? ⟨g,o+i*8+3,none⟩=some (.string K.g.funcs[i].body.name)∧W.cell? ⟨g,o+i*8+4,none⟩=some (.float .f64 fm)∧
      W.cell? ⟨g,o+i*8+5,none⟩=some (.slice na K.g.funcs[i].body.kids.length nc)∧W.cell? ⟨g,o+i*8+6,none⟩=some (.complex .f64 K.g.funcs[i].body.re K.g.funcs[i].body.im)∧W.cell? ⟨g,o+i*8+7,none⟩=some (.complex .f64 K.g.funcs[i].re K.g.funcs[i].im)∧SliceR StrE K.w0 (fun _=>True) K.g.funcs[i].params (.slice pa K.g.funcs[i].params.length pc)∧K.g.funcs[i].params.length≤pc:=by
  obtain ⟨g,o,cap,c,hv,-,hg,⟨pa,pc,b0,b1,b2,b3,b4,rfl,hp,hn⟩,hc⟩:=hK.funcs.get funcL hi
  obtain ⟨fm,na,nc,hvb,-⟩:=hn.kids
  simp only [Value.agg.injEq,Array.mk.injEq,List.cons.injEq,and_true] at hvb
  obtain ⟨rfl,rfl,rfl,rfl,rfl⟩:=hvb
  have hc':∀j u,[.string K.g.funcs[i].name,.slice pa K.g.funcs[i].params.length pc,.int .i64 K.g.funcs[i].body.kind,.string K.g.funcs[i].body.name,.float .f64 fm,.slice na K.g.funcs[i].body.kids.length nc,.complex .f64 K.g.funcs[i].body.re K.g.funcs[i].body.im,.complex .f64 K.g.funcs[i].re K.g.funcs[i].im][j]? =some u→W.cell? ⟨g,o+i*8+j,none⟩=some u:=fun j u hj=>by
    rw [World.cell?_of_block (w:=K.w0) (a:=⟨g,o+i*8+j,none⟩) (hk.block g hg (by simp)),Nat.add_assoc];exact hc j u hj
  have hfa:K.fa=some ⟨g,o,none⟩:=by injection hv
  exact ⟨g,o,pa,pc,fm,na,nc,hfa,hc' 0 _ rfl,hc' 1 _ rfl,hc' 2 _ rfl,hc' 3 _ rfl,hc' 4 _ rfl,hc' 5 _ rfl,hc' 6 _ rfl,hc' 7 _ rfl,hp,hp.cap⟩
theorem flookA_snoc(s:ByteArray)(f:FuncP):∀(l:List FuncP) (i:Nat),flookA s (l++ [f]) i=if flookA s l i=0 then (if same s f.name then i+l.length+1 else 0) else flookA s l i
  | [],i=>by simp [flookA]
  | x ::l,i=>by
    rw [List.cons_append]
    by_cases h:same s x.name=true
    · have a1:flookA s (x::l) i=i+1:=by rw [flookA,if_pos h]
      have a2:flookA s (x::(l++ [f])) i=i+1:=by rw [flookA,if_pos h]
      rw [a1,a2];simp
    · have a1:flookA s (x::l) i=flookA s l (i+1):=by rw [flookA,if_neg h]
      have a2:flookA s (x::(l++ [f])) i=flookA s (l++ [f]) (i+1):=by rw [flookA,if_neg h]
      rw [a1,a2,flookA_snoc s f l (i+1)]
      have e:i+1+l.length+1=i+(x::l).length+1:=by simp;omega
      rw [e]
/-- The map of the functions' numbers, as far as it is laid. -/
def MapFi(es:List (Ent ByteArray))(l:List FuncP):Prop:=∀s,kval s es=if flookA s l 0=0 then none else some (.int .i64 (flookA s l 0:Nat))
theorem MapFi.put{es:List (Ent ByteArray)}{l:List FuncP}{f:FuncP}{k:Nat}{v:Int}(h:MapFi es l)(hf:flookA f.name l 0=0)(hv:v=(l.length+1:Nat)):MapFi (kput f.name (.int .i64 v) k es).1 (l++ [f]):=by
  intro s
  rw [kval_kput,flookA_snoc,h s]
  by_cases hs:s=f.name
  · subst hs
    rw [if_pos rfl,if_pos hf,if_pos (same_iff.2 rfl),hv]
    simp
  · have:¬same s f.name=true:=fun h=>hs (same_iff.1 h)
    rw [if_neg hs,if_neg this]
    by_cases h0:flookA s l 0=0<;>simp [h0]
theorem MapFi.skip{es:List (Ent ByteArray)}{l:List FuncP}{f:FuncP}(h:MapFi es l)(hf:flookA f.name l 0≠0):MapFi es (l++ [f]):=by
  intro s
  rw [flookA_snoc,h s]
  by_cases hs:same s f.name=true
  · rw [same_iff.1 hs,if_neg hf,if_neg hf,if_neg hf]
  · rw [if_neg hs]
    by_cases h0:flookA s l 0=0<;>simp [h0]
/-- The checker, its functions' numbers laid. -/
theorem ck_start{K:CKey}(hK:CFix K){w W:World}(h0:Keeps [] K.w0 w)(hk:Keeps [K.mf] w W)(hc:w.heap[K.c]? =some (ckC K ns0 none 0))(hms:w.heap[K.ms]? =some (.map #[] 0))(hmn:w.heap[K.mn]? =some (.map #[] 0)){es:List (Ent ByteArray)}{k:Nat}
    (hmf:W.heap[K.mf]? =some (.map (ents (fun s=>Value.string s) es) k)) (he:MapFi es K.g.funcs):∃T ua uc,CK K T ua uc ns0 W:=by
  refine ⟨fun _=>False,none,0,h0.trans hk (by simp;exact hK.mf),hk.at hc (by simp [hK.ne.1]),⟨es,k,hmf,fun s=> ?_⟩,⟨[],0,hk.at hms (by simp [Ne.symm hK.ne.2.2.2.1]),rfl⟩,⟨[],0,hk.at hmn (by simp [Ne.symm hK.ne.2.2.2.2.1]),rfl,by simp,by simp⟩,OwnL.nil,fun _ h=>h.elim,fun _ h=>h.elim,⟨id,id,id,id⟩,Nat.zero_le _,by decide,by decide⟩
  rw [he s]
  unfold flook
  by_cases h:flookA s K.g.funcs 0=0<;>simp [h]
def HedI1(K:CKey)(w:World)(g:Nat)(j:Value)(W:World):Prop:=
  ∃k:Nat,j= .int .i64 k∧k≤K.g.funcs.length∧g+k=K.g.funcs.length+1∧Keeps [K.mf] w W∧∃es ek,W.heap[K.mf]? =some (.map (ents (fun s=>Value.string s) es) ek)∧MapFi es (K.g.funcs.take k)
theorem look65n{b:Nat}{W:World}{es:List (Ent ByteArray)}{k:Nat}{s:ByteArray}(hb:W.heap[b]? =some (.map (ents (fun s=>Value.string s) es) k))(h:kval s es=none):(Instr.lookup 87 (.map (some b)) (.string s) true).run Tryz.prog W= .ok (.tuple #[.int .i64 0,.bool false]) W:=by
  have:=run_klook_ok (P:=Tryz.prog) (keyS Tryz.underlying9) Tryz.underlying87 (z:= .int .i64 0) (w:=W) (by simp [go_sem]) hb s
  rw [h] at this;exact this
theorem look65s{b:Nat}{W:World}{es:List (Ent ByteArray)}{k:Nat}{s:ByteArray}{v:Value}(hb:W.heap[b]? =some (.map (ents (fun s=>Value.string s) es) k))(h:kval s es=some v):(Instr.lookup 87 (.map (some b)) (.string s) true).run Tryz.prog W= .ok (.tuple #[v,.bool true]) W:=by
  have:=run_klook_ok (P:=Tryz.prog) (keyS Tryz.underlying9) Tryz.underlying87 (z:= .int .i64 0) (w:=W) (by simp [go_sem]) hb s
  rw [h] at this;exact this
theorem run_fns{b:Nat}{W:World}{es:List (Ent ByteArray)}{k:Nat}(hb:W.heap[b]? =some (.map (ents (fun s=>Value.string s) es) k))(s:ByteArray)(v:Value):
    (Instr.mapUpdate 87 (.map (some b)) (.string s) v).run Tryz.prog W= .ok () (mset W b (.map (ents (fun s=>Value.string s) (kput s v k es).1) (kput s v k es).2)):=
  run_kput (P:=Tryz.prog) (keyS Tryz.underlying9) Tryz.underlying87 hb s v
def HedI2(K:CKey)(T:Nat→Prop)(ua:Option Addr)(uc:Nat)(st':NS)(w:World)(g:Nat)(j:Value)(W:World):Prop:=
  ∃k:Nat,j= .int .i64 k∧k≤K.g.funcs.length∧g+k=K.g.funcs.length+1∧∃st,headsA K.g k (K.g.funcs.drop k) st=st'∧CK K T ua uc st W∧CStep K T T w W
def HedI3(K:CKey)(T:Nat→Prop)(ua:Option Addr)(uc:Nat)(m:Nat)(f:FuncP)(st':NS)(w:World)(B:Nat)(ob:Obj)(g:Nat)(j:Value)(W:World):Prop:=
  ∃k:Nat,j= .int .i64 k∧k≤f.params.length∧g+k=f.params.length+1∧∃st,headPs K.g m f (f.params.take k) (f.params.drop k) st=st'∧CK K T ua uc st W∧CStep K T T w W∧W.heap[B]? =some ob
def HedI4(K:CKey)(T:Nat→Prop)(ua:Option Addr)(uc:Nat)(f:FuncP)(s:ByteArray)(l:List ByteArray)(st':NS)(w:World)(B:Nat)(ob:Obj)(g:Nat)(j:Value)(W:World):Prop:=
  ∃k:Nat,j= .int .i64 k∧k≤l.length∧g+k=l.length+1∧∃st,headP f s (l.drop k) st=st'∧CK K T ua uc st W∧CStep K T T w W∧W.heap[B]? =some ob
theorem fault_same{K:CKey}(hK:CFix K){T:Nat→Prop}{ua:Option Addr}{uc:Nat}{st:NS}{w:World}(h:CK K T ua uc st w)(re im:Nat)(e:Int):
    Calls Tryz.prog 64 #[.pointer (some ⟨K.c,0,none⟩),.complex .f64 re im,.int .i64 e] w fun r w'=>r= .returned (.tuple #[])∧CK K T ua uc (faultF st re im e) w'∧CStep K T T w w':=by
  unfold faultF
  by_cases h0:st.e=0
  · rw [if_pos h0]
    exact fault_y hK h re im e (by simp [h0])
  · rw [if_neg h0]
    exact fault_n hK h re im e (by simp [h0])
end Go.Proofs.YteafcepaolofpaaGreatDoor
end
