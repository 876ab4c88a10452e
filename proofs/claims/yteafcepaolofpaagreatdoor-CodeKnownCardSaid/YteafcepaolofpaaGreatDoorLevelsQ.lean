/- end, stmt, walked. Made by a program (parse.py, walk.py). -/
import Derived.Test.YteafcepaolofpaaGreatDoorLevelsP
set_option maxRecDepth 100000
set_option maxHeartbeats 4000000
set_option linter.unusedSimpArgs false
set_option linter.unusedVariables false
set_option linter.unusedSectionVars false
namespace Go.Proofs.YteafcepaolofpaaGreatDoor
open Go.RowKit

theorem end_k0{s:ByteArray}{p:Nat}{st:PSt}{w:World}(h:PP s p st w){kd:Int}{tx:ByteArray}{nm fr te:Nat}(ht:nextF s st.pos false=some ⟨0,tx,nm,fr,te⟩)  :
    Calls Tryz.prog 181 #[.pointer (some ⟨p,0,none⟩)] w fun r w'=>r= .returned (.tuple #[])∧PP s p st w'∧Keeps [p] w w':=by
  have g_p:=h.p
  obtain ⟨le1,le2,-⟩:=nextF_le ht h.le
  simp only at le1 le2
  have HP0:=Lib.hid h;have HK0:=Lib.hid (Keeps.refl [p] w);have HT:=Lib.hid ht
  clear h ht
  go_enter Tryz.func181,Tryz.ntmps181
  have l_p:=h_lt HP0.out.row
  go_wp2_with fail
  clear l_p
  refine (see_any HP0.out HT.out).mono ?_
  rintro r e1 ⟨rfl,hk⟩
  have HKe1:=Lib.hid (HK0.out.trans hk (by simp))
  have HPe1:=Lib.hid (HP0.out.keep hk)
  clear hk HK0 HP0
  have l_p:=h_lt HPe1.out.row
  go_wp2_with fail
  refine calls_at (fun W=>Keeps [] e1 W∧W.heap[e1.heap.size]? =some (.cells #[.int .i64 0,.string tx,.float .f64 nm,.int .i64 fr,.int .i64 te] 109 (0,0))) ⟨(by with_reducible repeat (first|exact k0 _ _|refine kA ?_ _|refine kD ?_|refine kS ?_ (by simp)|refine kM ?_ (by simp))),(by simp only [hS,hA,hD,hM,World.size_setCell,World.size_drew,reduceIte,Option.map_some,Obj.put]<;>rfl)⟩ ?_
  rintro w2 ⟨Kw2,cw2_T⟩
  have n_p_T:p≠e1.heap.size:=Nat.ne_of_lt l_p
  have n_T_p:e1.heap.size≠p:=Nat.ne_of_gt l_p
  have o_T:w.heap.size≤e1.heap.size:=HKe1.out.size
  have g_T:13<e1.heap.size:=Nat.lt_trans g_p l_p
  have HKw2:=Lib.hid (HKe1.out.trans Kw2 (by simp))
  have HPw2:=Lib.hid (HPe1.out.keep Kw2)
  have Rw2_T:=Lib.hid cw2_T
  clear Kw2 cw2_T l_p HKe1 HPe1
  refine (ok_any HPw2.out).mono ?_
  rintro r w' ⟨rfl,hw'⟩
  rw [hw']
  clear hw'
  have l_p:=h_lt HPw2.out.row
  obtain ⟨l_T,xT_0,xT_1,xT_2,xT_3,xT_4,yT_0,yT_1,yT_2,yT_3,yT_4⟩:=cf5 Rw2_T.out
  go_wp2_with fail
  refine ret_at (v:= .tuple #[]) (fun W=>Keeps [] w2 W) (by with_reducible repeat (first|exact k0 _ _|refine kA ?_ _|refine kD ?_|refine kS ?_ (by simp)|refine kM ?_ (by simp))) (fun w3 hW=> ?_) rfl (fun w3 hW=> ?_)
  · have Kw3:Keeps [] w2 w3:=hW
    simp [results,Tryz.results181,go_sem]
  · have Kw3:Keeps [] w2 w3:=hW
    have Rw3_T:=Lib.hid (Kw3.at Rw2_T.out (by simp))
    have HKw3:=Lib.hid (HKw2.out.trans Kw3 (by simp))
    have HPw3:=Lib.hid (HPw2.out.keep Kw3)
    clear Kw3 l_p l_T xT_0 xT_1 xT_2 xT_3 xT_4 yT_0 yT_1 yT_2 yT_3 yT_4 Rw2_T HKw2 HPw2
    exact ⟨rfl,HPw3.out,HKw3.out⟩

theorem end_brace{s:ByteArray}{p:Nat}{st:PSt}{w:World}(h:PP s p st w){kd:Int}{tx:ByteArray}{nm fr te:Nat}(ht:nextF s st.pos false=some ⟨kd,tx,nm,fr,te⟩)(n0:(kd==0)=false)(hb:isF s st ⟨#[125]⟩=some true):
    Calls Tryz.prog 181 #[.pointer (some ⟨p,0,none⟩)] w fun r w'=>r= .returned (.tuple #[])∧PP s p st w'∧Keeps [p] w w':=by
  have g_p:=h.p
  obtain ⟨le1,le2,-⟩:=nextF_le ht h.le
  simp only at le1 le2
  have HP0:=Lib.hid h;have HK0:=Lib.hid (Keeps.refl [p] w);have HT:=Lib.hid ht;have HB:=Lib.hid hb
  clear h ht hb
  go_enter Tryz.func181,Tryz.ntmps181
  have l_p:=h_lt HP0.out.row
  go_wp2_with fail
  clear l_p
  refine (see_any HP0.out HT.out).mono ?_
  rintro r e1 ⟨rfl,hk⟩
  have HKe1:=Lib.hid (HK0.out.trans hk (by simp))
  have HPe1:=Lib.hid (HP0.out.keep hk)
  clear hk HK0 HP0
  have l_p:=h_lt HPe1.out.row
  go_wp2_with fail
  refine calls_at (fun W=>Keeps [] e1 W∧W.heap[e1.heap.size]? =some (.cells #[.int .i64 kd,.string tx,.float .f64 nm,.int .i64 fr,.int .i64 te] 109 (0,0))) ⟨(by with_reducible repeat (first|exact k0 _ _|refine kA ?_ _|refine kD ?_|refine kS ?_ (by simp)|refine kM ?_ (by simp))),(by simp only [hS,hA,hD,hM,World.size_setCell,World.size_drew,reduceIte,Option.map_some,Obj.put]<;>rfl)⟩ ?_
  rintro w2 ⟨Kw2,cw2_T⟩
  have n_p_T:p≠e1.heap.size:=Nat.ne_of_lt l_p
  have n_T_p:e1.heap.size≠p:=Nat.ne_of_gt l_p
  have o_T:w.heap.size≤e1.heap.size:=HKe1.out.size
  have g_T:13<e1.heap.size:=Nat.lt_trans g_p l_p
  have HKw2:=Lib.hid (HKe1.out.trans Kw2 (by simp))
  have HPw2:=Lib.hid (HPe1.out.keep Kw2)
  have Rw2_T:=Lib.hid cw2_T
  clear Kw2 cw2_T l_p HKe1 HPe1
  refine (ok_any HPw2.out).mono ?_
  rintro r w' ⟨rfl,hw'⟩
  rw [hw']
  clear hw'
  have l_p:=h_lt HPw2.out.row
  obtain ⟨l_T,xT_0,xT_1,xT_2,xT_3,xT_4,yT_0,yT_1,yT_2,yT_3,yT_4⟩:=cf5 Rw2_T.out
  go_wp2_with fail
  clear l_p l_T xT_0 xT_1 xT_2 xT_3 xT_4 yT_0 yT_1 yT_2 yT_3 yT_4
  refine (isF_any HPw2.out HB.out).mono ?_
  rintro r e3 ⟨rfl,hk⟩
  have Re3_T:=Lib.hid (hk.at Rw2_T.out (by simp))
  have HKe3:=Lib.hid (HKw2.out.trans hk (by simp))
  have HPe3:=Lib.hid (HPw2.out.keep hk)
  clear hk Rw2_T HKw2 HPw2
  have l_p:=h_lt HPe3.out.row
  have l_T:=h_lt Re3_T.out
  go_wp2_with fail
  refine ret_at (v:= .tuple #[]) (fun W=>Keeps [] e3 W) (by with_reducible repeat (first|exact k0 _ _|refine kA ?_ _|refine kD ?_|refine kS ?_ (by simp)|refine kM ?_ (by simp))) (fun w4 hW=> ?_) rfl (fun w4 hW=> ?_)
  · have Kw4:Keeps [] e3 w4:=hW
    simp [results,Tryz.results181,go_sem]
  · have Kw4:Keeps [] e3 w4:=hW
    have Rw4_T:=Lib.hid (Kw4.at Re3_T.out (by simp))
    have HKw4:=Lib.hid (HKe3.out.trans Kw4 (by simp))
    have HPw4:=Lib.hid (HPe3.out.keep Kw4)
    clear Kw4 l_p l_T Re3_T HKe3 HPe3
    exact ⟨rfl,HPw4.out,HKw4.out⟩

theorem end_line{s:ByteArray}{p:Nat}{st:PSt}{w:World}(h:PP s p st w){kd:Int}{tx:ByteArray}{nm fr te:Nat}(ht:nextF s st.pos false=some ⟨1,tx,nm,fr,te⟩)(hb:isF s st ⟨#[125]⟩=some false):
    Calls Tryz.prog 181 #[.pointer (some ⟨p,0,none⟩)] w fun r w'=>r= .returned (.tuple #[])∧PP s p ⟨te,st.opn,st.ng⟩ w'∧Keeps [p] w w':=by
  have g_p:=h.p
  obtain ⟨le1,le2,-⟩:=nextF_le ht h.le
  simp only at le1 le2
  have HP0:=Lib.hid h;have HK0:=Lib.hid (Keeps.refl [p] w);have HT:=Lib.hid ht;have HB:=Lib.hid hb
  clear h ht hb
  go_enter Tryz.func181,Tryz.ntmps181
  have l_p:=h_lt HP0.out.row
  go_wp2_with fail
  clear l_p
  refine (see_any HP0.out HT.out).mono ?_
  rintro r e1 ⟨rfl,hk⟩
  have HKe1:=Lib.hid (HK0.out.trans hk (by simp))
  have HPe1:=Lib.hid (HP0.out.keep hk)
  clear hk HK0 HP0
  have l_p:=h_lt HPe1.out.row
  go_wp2_with fail
  refine calls_at (fun W=>Keeps [] e1 W∧W.heap[e1.heap.size]? =some (.cells #[.int .i64 1,.string tx,.float .f64 nm,.int .i64 fr,.int .i64 te] 109 (0,0))) ⟨(by with_reducible repeat (first|exact k0 _ _|refine kA ?_ _|refine kD ?_|refine kS ?_ (by simp)|refine kM ?_ (by simp))),(by simp only [hS,hA,hD,hM,World.size_setCell,World.size_drew,reduceIte,Option.map_some,Obj.put]<;>rfl)⟩ ?_
  rintro w2 ⟨Kw2,cw2_T⟩
  have n_p_T:p≠e1.heap.size:=Nat.ne_of_lt l_p
  have n_T_p:e1.heap.size≠p:=Nat.ne_of_gt l_p
  have o_T:w.heap.size≤e1.heap.size:=HKe1.out.size
  have g_T:13<e1.heap.size:=Nat.lt_trans g_p l_p
  have HKw2:=Lib.hid (HKe1.out.trans Kw2 (by simp))
  have HPw2:=Lib.hid (HPe1.out.keep Kw2)
  have Rw2_T:=Lib.hid cw2_T
  clear Kw2 cw2_T l_p HKe1 HPe1
  refine (ok_any HPw2.out).mono ?_
  rintro r w' ⟨rfl,hw'⟩
  rw [hw']
  clear hw'
  have l_p:=h_lt HPw2.out.row
  obtain ⟨l_T,xT_0,xT_1,xT_2,xT_3,xT_4,yT_0,yT_1,yT_2,yT_3,yT_4⟩:=cf5 Rw2_T.out
  go_wp2_with fail
  clear l_p l_T xT_0 xT_1 xT_2 xT_3 xT_4 yT_0 yT_1 yT_2 yT_3 yT_4
  refine (isF_any HPw2.out HB.out).mono ?_
  rintro r e3 ⟨rfl,hk⟩
  have Re3_T:=Lib.hid (hk.at Rw2_T.out (by simp))
  have HKe3:=Lib.hid (HKw2.out.trans hk (by simp))
  have HPe3:=Lib.hid (HPw2.out.keep hk)
  clear hk Rw2_T HKw2 HPw2
  obtain ⟨l_p,xp_0,xp_1,xp_2,xp_3,xp_4,xp_5,yp_0,yp_1,yp_2,yp_3,yp_4,yp_5⟩:=cf6 HPe3.out.row
  obtain ⟨l_T,xT_0,xT_1,xT_2,xT_3,xT_4,yT_0,yT_1,yT_2,yT_3,yT_4⟩:=cf5 Re3_T.out
  go_wp2_with fail
  refine end_at (v:= .tuple #[]) (fun W=>Keeps [p] e3 W∧W.heap[p]? =some (.cells #[.string s,.int .i64 te,.int .i64 st.opn,.bool st.ng,.int .i64 0,.complex .f64 0 0] 106 (0,0))) ⟨(by with_reducible repeat (first|exact k0 _ _|refine kA ?_ _|refine kD ?_|refine kS ?_ (by simp)|refine kM ?_ (by simp))),(by simp only [hS,hA,hD,hM,reduceIte,Option.map_some,Obj.put,HPe3.out.row,Nat.ne_of_lt l_p,Nat.ne_of_gt l_p]<;>rfl)⟩ (fun w4 hW=> ?_) rfl (fun w4 hW=> ?_)
  · obtain ⟨Kw4,cw4_p⟩:=hW
    simp [results,Tryz.results181,go_sem]
  · obtain ⟨Kw4,cw4_p⟩:=hW
    have Rw4_T:=Lib.hid (Kw4.at Re3_T.out (by simp [n_T_p]))
    have HKw4:=Lib.hid (HKe3.out.trans Kw4 (by simp))
    have HPw4:Hid (PP s p ⟨te,st.opn,st.ng⟩ w4):=Lib.hid (HPe3.out.upd Kw4 (by simp [g_p]) cw4_p (by first|assumption|exact HPe3.out.le) HPe3.out.ob)
    clear Kw4 cw4_p l_p xp_0 xp_1 xp_2 xp_3 xp_4 xp_5 yp_0 yp_1 yp_2 yp_3 yp_4 yp_5 l_T xT_0 xT_1 xT_2 xT_3 xT_4 yT_0 yT_1 yT_2 yT_3 yT_4 Re3_T HKe3 HPe3
    exact ⟨rfl,HPw4.out,HKw4.out⟩

theorem end_semi{s:ByteArray}{p:Nat}{st:PSt}{w:World}(h:PP s p st w){kd:Int}{tx:ByteArray}{nm fr te:Nat}(ht:nextF s st.pos false=some ⟨9,tx,nm,fr,te⟩)(hb:isF s st ⟨#[125]⟩=some false)(htx:(tx.toList== [59])=true):
    Calls Tryz.prog 181 #[.pointer (some ⟨p,0,none⟩)] w fun r w'=>r= .returned (.tuple #[])∧PP s p ⟨te,st.opn,st.ng⟩ w'∧Keeps [p] w w':=by
  have g_p:=h.p
  obtain ⟨le1,le2,-⟩:=nextF_le ht h.le
  simp only at le1 le2
  have HP0:=Lib.hid h;have HK0:=Lib.hid (Keeps.refl [p] w);have HT:=Lib.hid ht;have HB:=Lib.hid hb
  clear h ht hb
  go_enter Tryz.func181,Tryz.ntmps181
  have l_p:=h_lt HP0.out.row
  go_wp2_with fail
  clear l_p
  refine (see_any HP0.out HT.out).mono ?_
  rintro r e1 ⟨rfl,hk⟩
  have HKe1:=Lib.hid (HK0.out.trans hk (by simp))
  have HPe1:=Lib.hid (HP0.out.keep hk)
  clear hk HK0 HP0
  have l_p:=h_lt HPe1.out.row
  go_wp2_with fail
  refine calls_at (fun W=>Keeps [] e1 W∧W.heap[e1.heap.size]? =some (.cells #[.int .i64 9,.string tx,.float .f64 nm,.int .i64 fr,.int .i64 te] 109 (0,0))) ⟨(by with_reducible repeat (first|exact k0 _ _|refine kA ?_ _|refine kD ?_|refine kS ?_ (by simp)|refine kM ?_ (by simp))),(by simp only [hS,hA,hD,hM,World.size_setCell,World.size_drew,reduceIte,Option.map_some,Obj.put]<;>rfl)⟩ ?_
  rintro w2 ⟨Kw2,cw2_T⟩
  have n_p_T:p≠e1.heap.size:=Nat.ne_of_lt l_p
  have n_T_p:e1.heap.size≠p:=Nat.ne_of_gt l_p
  have o_T:w.heap.size≤e1.heap.size:=HKe1.out.size
  have g_T:13<e1.heap.size:=Nat.lt_trans g_p l_p
  have HKw2:=Lib.hid (HKe1.out.trans Kw2 (by simp))
  have HPw2:=Lib.hid (HPe1.out.keep Kw2)
  have Rw2_T:=Lib.hid cw2_T
  clear Kw2 cw2_T l_p HKe1 HPe1
  refine (ok_any HPw2.out).mono ?_
  rintro r w' ⟨rfl,hw'⟩
  rw [hw']
  clear hw'
  have l_p:=h_lt HPw2.out.row
  obtain ⟨l_T,xT_0,xT_1,xT_2,xT_3,xT_4,yT_0,yT_1,yT_2,yT_3,yT_4⟩:=cf5 Rw2_T.out
  go_wp2_with fail
  clear l_p l_T xT_0 xT_1 xT_2 xT_3 xT_4 yT_0 yT_1 yT_2 yT_3 yT_4
  refine (isF_any HPw2.out HB.out).mono ?_
  rintro r e3 ⟨rfl,hk⟩
  have Re3_T:=Lib.hid (hk.at Rw2_T.out (by simp))
  have HKe3:=Lib.hid (HKw2.out.trans hk (by simp))
  have HPe3:=Lib.hid (HPw2.out.keep hk)
  clear hk Rw2_T HKw2 HPw2
  obtain ⟨l_p,xp_0,xp_1,xp_2,xp_3,xp_4,xp_5,yp_0,yp_1,yp_2,yp_3,yp_4,yp_5⟩:=cf6 HPe3.out.row
  obtain ⟨l_T,xT_0,xT_1,xT_2,xT_3,xT_4,yT_0,yT_1,yT_2,yT_3,yT_4⟩:=cf5 Re3_T.out
  go_wp2_with fail
  refine end_at (v:= .tuple #[]) (fun W=>Keeps [p] e3 W∧W.heap[p]? =some (.cells #[.string s,.int .i64 te,.int .i64 st.opn,.bool st.ng,.int .i64 0,.complex .f64 0 0] 106 (0,0))) ⟨(by with_reducible repeat (first|exact k0 _ _|refine kA ?_ _|refine kD ?_|refine kS ?_ (by simp)|refine kM ?_ (by simp))),(by simp only [hS,hA,hD,hM,reduceIte,Option.map_some,Obj.put,HPe3.out.row,Nat.ne_of_lt l_p,Nat.ne_of_gt l_p]<;>rfl)⟩ (fun w4 hW=> ?_) rfl (fun w4 hW=> ?_)
  · obtain ⟨Kw4,cw4_p⟩:=hW
    simp [results,Tryz.results181,go_sem]
  · obtain ⟨Kw4,cw4_p⟩:=hW
    have Rw4_T:=Lib.hid (Kw4.at Re3_T.out (by simp [n_T_p]))
    have HKw4:=Lib.hid (HKe3.out.trans Kw4 (by simp))
    have HPw4:Hid (PP s p ⟨te,st.opn,st.ng⟩ w4):=Lib.hid (HPe3.out.upd Kw4 (by simp [g_p]) cw4_p (by first|assumption|exact HPe3.out.le) HPe3.out.ob)
    clear Kw4 cw4_p l_p xp_0 xp_1 xp_2 xp_3 xp_4 xp_5 yp_0 yp_1 yp_2 yp_3 yp_4 yp_5 l_T xT_0 xT_1 xT_2 xT_3 xT_4 yT_0 yT_1 yT_2 yT_3 yT_4 Re3_T HKe3 HPe3
    exact ⟨rfl,HPw4.out,HKw4.out⟩

theorem end_any{s:ByteArray}{p:Nat}{st st':PSt}{w:World}(h:PP s p st w)(hx:endF s st=some st'):
    Calls Tryz.prog 181 #[.pointer (some ⟨p,0,none⟩)] w fun r w'=>r= .returned (.tuple #[])∧PP s p st' w'∧Keeps [p] w w':=by
  unfold endF at hx
  cases ht:nextF s st.pos false with
  |none=>rw [ht] at hx;simp at hx
  | some t=>
    rw [ht] at hx
    obtain ⟨kd,tx,nm,fr,te⟩:=t
    simp only [Option.bind_eq_bind,Option.bind_some] at hx
    by_cases h0:kd=0
    · subst h0
      rw [if_pos rfl] at hx
      obtain rfl:=Option.some.inj hx
      exact end_k0 (kd:=0) h ht
    · rw [if_neg h0] at hx
      cases hb:isF s st (bs [125]) with
      |none=>rw [hb] at hx;simp at hx
      | some b=>
        rw [hb] at hx
        simp only [Option.bind_some] at hx
        cases b with
        | true=>
          simp only [if_true,Option.some.injEq] at hx
          subst hx
          exact end_brace h ht (beq_false_of_ne h0) hb
        | false=>
          simp only [Bool.false_eq_true,if_false] at hx
          split at hx
          · rename_i hc
            obtain rfl:=Option.some.inj hx
            rcases hc with rfl|⟨rfl,hs⟩
            · exact end_line (kd:=0) h ht hb
            · refine end_semi (kd:=0) h ht hb ?_
              rw [←same_eq] at hs
              rwa [show (bs [59]).toList= [59] from by rw [bs,ByteArray.toList_mk]] at hs
          · cases hx

theorem stmt_lv{s:ByteArray}{p:Nat}{st st2 st3:PSt}{n:Node}{kd:Int}{tx:ByteArray}{nm fr te:Nat}(ht:nextF s st.pos true=some ⟨kd,tx,nm,fr,te⟩)(hb:notF s st ⟨#[123]⟩=some ())(hn_if:notF s st ⟨#[105,102]⟩=some ())(hn_while:notF s st ⟨#[119,104,105,108,101]⟩=some ())(hn_do:notF s st ⟨#[100,111]⟩=some ())(hn_for:notF s st ⟨#[102,111,114]⟩=some ())(hs:Hands s p st st2 n 183)(he:endF s st2=some st3):Hands s p st st3 n 153:=by
  intro w h
  have g_p:=h.p
  have HP0:=Lib.hid h;have HK0:=Lib.hid (Keeps.refl [p] w);have HT:=Lib.hid ht;have HB:=Lib.hid hb;have HS1:=Lib.hid hs;have HE:=Lib.hid he;have HN_if:=Lib.hid (take_not hn_if);have HN_while:=Lib.hid (take_not hn_while);have HN_do:=Lib.hid (take_not hn_do);have HN_for:=Lib.hid (take_not hn_for)
  clear h ht hb hs he hn_if hn_while hn_do hn_for
  go_enter Tryz.func153,Tryz.ntmps153
  have l_p:=h_lt HP0.out.row
  go_wp2_with fail
  refine calls_at (fun W=>Keeps [] w W∧W.heap[w.heap.size]? =some (.cells #[.int .i64 0,.string ⟨#[]⟩,.float .f64 0,.slice none 0 0,.complex .f64 0 0] 58 (0,0))) ⟨(by with_reducible repeat (first|exact k0 _ _|refine kA ?_ _|refine kD ?_|refine kS ?_ (by simp)|refine kM ?_ (by simp))),(by simp only [hS,hA,hD,hM,World.size_setCell,World.size_drew,reduceIte,Option.map_some,Obj.put]<;>rfl)⟩ ?_
  rintro w1 ⟨Kw1,cw1_R⟩
  have n_p_R:p≠w.heap.size:=Nat.ne_of_lt l_p
  have n_R_p:w.heap.size≠p:=Nat.ne_of_gt l_p
  have o_R:w.heap.size≤w.heap.size:=Nat.le_refl _
  have g_R:13<w.heap.size:=Nat.lt_trans g_p l_p
  have HKw1:=Lib.hid (HK0.out.trans Kw1 (by simp))
  have HPw1:=Lib.hid (HP0.out.keep Kw1)
  have Rw1_R:=Lib.hid cw1_R
  clear Kw1 cw1_R l_p HK0 HP0
  refine (here_any HPw1.out HT.out).mono ?_
  rintro r e2 ⟨rfl,hk⟩
  have Re2_R:=Lib.hid (hk.at Rw1_R.out (by simp))
  have HKe2:=Lib.hid (HKw1.out.trans hk (by simp))
  have HPe2:=Lib.hid (HPw1.out.keep hk)
  clear hk Rw1_R HKw1 HPw1
  have l_p:=h_lt HPe2.out.row
  have l_R:=h_lt Re2_R.out
  go_wp2_with fail
  refine calls_at (fun W=>Keeps [] e2 W∧W.heap[e2.heap.size]? =some (.cells #[.int .i64 kd,.string tx,.float .f64 nm,.int .i64 fr,.int .i64 te] 109 (0,0))) ⟨(by with_reducible repeat (first|exact k0 _ _|refine kA ?_ _|refine kD ?_|refine kS ?_ (by simp)|refine kM ?_ (by simp))),(by simp only [hS,hA,hD,hM,World.size_setCell,World.size_drew,reduceIte,Option.map_some,Obj.put]<;>rfl)⟩ ?_
  rintro w3 ⟨Kw3,cw3_T⟩
  have n_p_T:p≠e2.heap.size:=Nat.ne_of_lt l_p
  have n_T_p:e2.heap.size≠p:=Nat.ne_of_gt l_p
  have n_R_T:w.heap.size≠e2.heap.size:=Nat.ne_of_lt l_R
  have n_T_R:e2.heap.size≠w.heap.size:=Nat.ne_of_gt l_R
  have o_T:w.heap.size≤e2.heap.size:=HKe2.out.size
  have g_T:13<e2.heap.size:=Nat.lt_trans g_p l_p
  have Rw3_R:=Lib.hid (Kw3.at Re2_R.out (by simp))
  have HKw3:=Lib.hid (HKe2.out.trans Kw3 (by simp))
  have HPw3:=Lib.hid (HPe2.out.keep Kw3)
  have Rw3_T:=Lib.hid cw3_T
  clear Kw3 cw3_T l_p l_R Re2_R HKe2 HPe2
  refine (is_not HPw3.out HB.out).mono ?_
  rintro r e4 ⟨rfl,hk⟩
  have Re4_R:=Lib.hid (hk.at Rw3_R.out (by simp))
  have Re4_T:=Lib.hid (hk.at Rw3_T.out (by simp))
  have HKe4:=Lib.hid (HKw3.out.trans hk (by simp))
  have HPe4:=Lib.hid (HPw3.out.keep hk)
  clear hk Rw3_R Rw3_T HKw3 HPw3
  have l_p:=h_lt HPe4.out.row
  have l_R:=h_lt Re4_R.out
  have l_T:=h_lt Re4_T.out
  go_wp2_with fail
  clear l_p l_R l_T
  refine (take_any HPe4.out HN_if.out).mono ?_
  rintro r e5 ⟨rfl,hp,hk⟩
  have Re5_R:=Lib.hid (hk.at Re4_R.out (by simp [n_R_p]))
  have Re5_T:=Lib.hid (hk.at Re4_T.out (by simp [n_T_p]))
  have HKe5:=Lib.hid (HKe4.out.trans hk (by simp))
  have HPne5:=Lib.hid hp
  clear hp
  clear hk Re4_R Re4_T HKe4 HPe4
  have l_p:=h_lt HPne5.out.row
  have l_R:=h_lt Re5_R.out
  have l_T:=h_lt Re5_T.out
  go_wp2_with fail
  clear l_p l_R l_T
  refine (take_any HPne5.out HN_while.out).mono ?_
  rintro r e6 ⟨rfl,hp,hk⟩
  have Re6_R:=Lib.hid (hk.at Re5_R.out (by simp [n_R_p]))
  have Re6_T:=Lib.hid (hk.at Re5_T.out (by simp [n_T_p]))
  have HKe6:=Lib.hid (HKe5.out.trans hk (by simp))
  have HPne6:=Lib.hid hp
  clear hp
  clear hk Re5_R Re5_T HKe5 HPne5
  have l_p:=h_lt HPne6.out.row
  have l_R:=h_lt Re6_R.out
  have l_T:=h_lt Re6_T.out
  go_wp2_with fail
  clear l_p l_R l_T
  refine (take_any HPne6.out HN_do.out).mono ?_
  rintro r e7 ⟨rfl,hp,hk⟩
  have Re7_R:=Lib.hid (hk.at Re6_R.out (by simp [n_R_p]))
  have Re7_T:=Lib.hid (hk.at Re6_T.out (by simp [n_T_p]))
  have HKe7:=Lib.hid (HKe6.out.trans hk (by simp))
  have HPne7:=Lib.hid hp
  clear hp
  clear hk Re6_R Re6_T HKe6 HPne6
  have l_p:=h_lt HPne7.out.row
  have l_R:=h_lt Re7_R.out
  have l_T:=h_lt Re7_T.out
  go_wp2_with fail
  clear l_p l_R l_T
  refine (take_any HPne7.out HN_for.out).mono ?_
  rintro r e8 ⟨rfl,hp,hk⟩
  have Re8_R:=Lib.hid (hk.at Re7_R.out (by simp [n_R_p]))
  have Re8_T:=Lib.hid (hk.at Re7_T.out (by simp [n_T_p]))
  have HKe8:=Lib.hid (HKe7.out.trans hk (by simp))
  have HPne8:=Lib.hid hp
  clear hp
  clear hk Re7_R Re7_T HKe7 HPne7
  have l_p:=h_lt HPne8.out.row
  have l_R:=h_lt Re8_R.out
  have l_T:=h_lt Re8_T.out
  go_wp2_with fail
  clear l_p l_R l_T
  refine (HS1.out _ HPne8.out).mono ?_
  rintro r e9 ⟨v,rfl,hn,hp,hk⟩
  have Re9_R:=Lib.hid (hk.at Re8_R.out (by simp [n_R_p]))
  have Re9_T:=Lib.hid (hk.at Re8_T.out (by simp [n_T_p]))
  have HKe9:=Lib.hid (HKe8.out.trans hk (by simp))
  have HPne9:=Lib.hid hp
  have ne9:=Lib.hid hn.seg
  have o_n:w.heap.size≤e8.heap.size:=HKe8.out.size
  have ns_n_p:¬(Seg e8.heap.size e9.heap.size) (p):=fun h=>Nat.not_lt_of_le h.1 (h_lt HPne8.out.row)
  have ns_n_R:¬(Seg e8.heap.size e9.heap.size) (w.heap.size):=fun h=>Nat.not_lt_of_le h.1 (h_lt Re8_R.out)
  have ns_n_T:¬(Seg e8.heap.size e9.heap.size) (e2.heap.size):=fun h=>Nat.not_lt_of_le h.1 (h_lt Re8_T.out)
  have up_n:∀g,(Seg e8.heap.size e9.heap.size) g→g<e9.heap.size:=fun _ h=>h.2
  have dn_n:∀g,(Seg e8.heap.size e9.heap.size) g→w.heap.size≤g:=fun _ h=>Nat.le_trans o_n h.1
  obtain ⟨nt,nm,na,nl,nc,nr,ni,rfl,-,-⟩:=hn.shape
  clear hn hp
  clear hk Re8_R Re8_T HKe8 HPne8
  have l_p:=h_lt HPne9.out.row
  have l_R:=h_lt Re9_R.out
  have l_T:=h_lt Re9_T.out
  go_wp2_with fail
  refine calls_at (fun W=>Keeps [] e9 W∧W.heap[e9.heap.size]? =some (.cells #[.int .i64 n.kind,.string nt,.float .f64 nm,.slice na nl nc,.complex .f64 nr ni] 58 (0,0))) ⟨(by with_reducible repeat (first|exact k0 _ _|refine kA ?_ _|refine kD ?_|refine kS ?_ (by simp)|refine kM ?_ (by simp))),(by simp only [hS,hA,hD,hM,World.size_setCell,World.size_drew,reduceIte,Option.map_some,Obj.put]<;>rfl)⟩ ?_
  rintro w10 ⟨Kw10,cw10_B⟩
  have n_p_B:p≠e9.heap.size:=Nat.ne_of_lt l_p
  have n_B_p:e9.heap.size≠p:=Nat.ne_of_gt l_p
  have n_R_B:w.heap.size≠e9.heap.size:=Nat.ne_of_lt l_R
  have n_B_R:e9.heap.size≠w.heap.size:=Nat.ne_of_gt l_R
  have n_T_B:e2.heap.size≠e9.heap.size:=Nat.ne_of_lt l_T
  have n_B_T:e9.heap.size≠e2.heap.size:=Nat.ne_of_gt l_T
  have o_B:w.heap.size≤e9.heap.size:=HKe9.out.size
  have g_B:13<e9.heap.size:=Nat.lt_trans g_p l_p
  have ns_n_B:¬(Seg e8.heap.size e9.heap.size) (e9.heap.size):=fun h=>Nat.not_lt_of_le ((Nat.le_refl e9.heap.size)) (up_n _ h)
  have Rw10_R:=Lib.hid (Kw10.at Re9_R.out (by simp))
  have Rw10_T:=Lib.hid (Kw10.at Re9_T.out (by simp))
  have HKw10:=Lib.hid (HKe9.out.trans Kw10 (by simp))
  have HPw10:=Lib.hid (HPne9.out.keep Kw10)
  have nw10:=Lib.hid (ne9.out.kp Kw10 (by simp))
  have us_nw10:=Nat.le_trans (Nat.le_refl e9.heap.size) Kw10.size
  have Rw10_B:=Lib.hid cw10_B
  clear Kw10 cw10_B l_p l_R l_T Re9_R Re9_T HKe9 HPne9 ne9
  refine (end_any HPw10.out HE.out).mono ?_
  rintro r e11 ⟨rfl,hp,hk⟩
  have Re11_R:=Lib.hid (hk.at Rw10_R.out (by simp [n_R_p]))
  have Re11_T:=Lib.hid (hk.at Rw10_T.out (by simp [n_T_p]))
  have Re11_B:=Lib.hid (hk.at Rw10_B.out (by simp [n_B_p]))
  have HKe11:=Lib.hid (HKw10.out.trans hk (by simp))
  have ne11:=Lib.hid (nw10.out.kp hk (by simp [ns_n_p]))
  have us_ne11:=Nat.le_trans us_nw10 hk.size
  have HPne11:=Lib.hid hp
  clear hp
  clear hk Rw10_R Rw10_T Rw10_B HKw10 nw10 us_nw10 HPw10
  have l_p:=h_lt HPne11.out.row
  obtain ⟨l_R,xR_0,xR_1,xR_2,xR_3,xR_4,yR_0,yR_1,yR_2,yR_3,yR_4⟩:=cf5 Re11_R.out
  have l_T:=h_lt Re11_T.out
  obtain ⟨l_B,xB_0,xB_1,xB_2,xB_3,xB_4,yB_0,yB_1,yB_2,yB_3,yB_4⟩:=cf5 Re11_B.out
  go_wp2_with fail
  refine ret_at (v:= .agg #[.int .i64 n.kind,.string nt,.float .f64 nm,.slice na nl nc,.complex .f64 nr ni]) (fun W=>Keeps [w.heap.size] e11 W∧W.heap[w.heap.size]? =some (.cells #[.int .i64 n.kind,.string nt,.float .f64 nm,.slice na nl nc,.complex .f64 nr ni] 58 (0,0))) ⟨(by with_reducible repeat (first|exact k0 _ _|refine kA ?_ _|refine kD ?_|refine kS ?_ (by simp)|refine kM ?_ (by simp))),(by simp only [hS,hA,hD,hM,reduceIte,Option.map_some,Obj.put,Re11_R.out,Nat.ne_of_lt l_R,Nat.ne_of_gt l_R]<;>rfl)⟩ (fun w12 hW=> ?_) rfl (fun w12 hW=> ?_)
  · obtain ⟨Kw12,cw12_R⟩:=hW
    have q0:=cell_of_heap cw12_R 0
    have q1:=cell_of_heap cw12_R 1
    have q2:=cell_of_heap cw12_R 2
    have q3:=cell_of_heap cw12_R 3
    have q4:=cell_of_heap cw12_R 4
    simp at q0 q1 q2 q3 q4
    simp [results,Tryz.results153,go_sem,q0,q1,q2,q3,q4]
  · obtain ⟨Kw12,cw12_R⟩:=hW
    have Rw12_T:=Lib.hid (Kw12.at Re11_T.out (by simp [n_T_R]))
    have Rw12_B:=Lib.hid (Kw12.at Re11_B.out (by simp [n_B_R]))
    have HKw12:=Lib.hid (HKe11.out.trans Kw12 (by simp [o_R]))
    have HPw12:=Lib.hid (HPne11.out.keepN Kw12 (by simp [n_p_R]) (by simp [g_R]))
    have nw12:=Lib.hid (ne11.out.kp Kw12 (by simp [ns_n_R]))
    have us_nw12:=Nat.le_trans us_ne11 Kw12.size
    have Rw12_R:=Lib.hid cw12_R
    clear Kw12 cw12_R l_p l_R xR_0 xR_1 xR_2 xR_3 xR_4 yR_0 yR_1 yR_2 yR_3 yR_4 l_T l_B xB_0 xB_1 xB_2 xB_3 xB_4 yB_0 yB_1 yB_2 yB_3 yB_4 Re11_T Re11_B HKe11 HPne11 ne11 us_ne11 Re11_R
    exact ⟨_,rfl,nw12.out.to dn_n,HPw12.out,HKw12.out⟩
end Go.Proofs.YteafcepaolofpaaGreatDoor
