/- Texts of this claim, joined: LevelsL, LevelsM, LevelsN. -/
import Derived.Test.YteafcepaolofpaaGreatDoorLevelsK
set_option maxRecDepth 100000
set_option maxHeartbeats 4000000
set_option linter.unusedSimpArgs false
set_option linter.unusedVariables false
set_option linter.unusedSectionVars false
section
/- operand, walked. Made by a program (parse.py, walk.py). -/
namespace Go.Proofs.YteafcepaolofpaaGreatDoor
open Go.RowKit

theorem operand_num{s:ByteArray}{p:Nat}{st:PSt}{tx:ByteArray}{nm fr te:Nat}(ht:nextF s st.pos true=some ⟨2,tx,nm,fr,te⟩)  :Hands s p st ⟨te,st.opn,st.ng⟩ (.mk 1 ⟨#[]⟩ nm [] (placeOf s fr).1 (placeOf s fr).2) 267:=by
  intro w h
  have g_p:=h.p
  obtain ⟨le1,le2,-⟩:=nextF_le ht h.le
  simp only at le1 le2
  have le3:=Nat.le_trans le1 le2
  have HP0:=Lib.hid h;have HK0:=Lib.hid (Keeps.refl [p] w);have HT:=Lib.hid ht
  clear h ht le1

  go_enter Tryz.func267,Tryz.ntmps267
  have l_p:=h_lt HP0.out.row
  go_wp2_with fail
  refine calls_at (fun W=>Keeps [] w W∧W.heap[w.heap.size]? =some (.cells #[.int .i64 0,.string ⟨#[]⟩,.float .f64 0,.slice none 0 0,.complex .f64 0 0] 58 (0,0))) ⟨(by with_reducible repeat (first|exact k0 _ _|refine kA ?_ _|refine kD ?_|refine kS ?_ (by simp)|refine kM ?_ (by simp))),(by simp only [hS,hA,hD,hM,World.size_setCell,World.size_drew,reduceIte,Option.map_some,Obj.put]<;>rfl)⟩ ?_
  rintro w1 ⟨Kw1,cw1_R⟩
  have n_p_R:p≠w.heap.size:=Nat.ne_of_lt l_p
  have n_R_p:w.heap.size≠p:=Nat.ne_of_gt l_p
  have o_R:w.heap.size≤w.heap.size:=Nat.le_refl _
  have g_R:13<w.heap.size:=Nat.lt_trans g_p l_p
  have HKw1:=Lib.hid (HK0.out.trans Kw1 (by simp))
  have HPw1:=Lib.hid (HP0.out.keep Kw1)
  have Rw1_R:=Lib.hid cw1_R
  clear Kw1 cw1_R l_p HK0 HP0
  refine (see_any HPw1.out HT.out).mono ?_
  rintro r e2 ⟨rfl,hk⟩
  have Re2_R:=Lib.hid (hk.at Rw1_R.out (by simp))
  have HKe2:=Lib.hid (HKw1.out.trans hk (by simp))
  have HPe2:=Lib.hid (HPw1.out.keep hk)
  clear hk Rw1_R HKw1 HPw1
  have l_p:=h_lt HPe2.out.row
  have l_R:=h_lt Re2_R.out
  go_wp2_with fail
  refine calls_at (fun W=>Keeps [] e2 W∧W.heap[e2.heap.size]? =some (.cells #[.int .i64 2,.string tx,.float .f64 nm,.int .i64 fr,.int .i64 te] 109 (0,0))) ⟨(by with_reducible repeat (first|exact k0 _ _|refine kA ?_ _|refine kD ?_|refine kS ?_ (by simp)|refine kM ?_ (by simp))),(by simp only [hS,hA,hD,hM,World.size_setCell,World.size_drew,reduceIte,Option.map_some,Obj.put]<;>rfl)⟩ ?_
  rintro w3 ⟨Kw3,cw3_T⟩
  have n_p_T:p≠e2.heap.size:=Nat.ne_of_lt l_p
  have n_T_p:e2.heap.size≠p:=Nat.ne_of_gt l_p
  have n_R_T:w.heap.size≠e2.heap.size:=Nat.ne_of_lt l_R
  have n_T_R:e2.heap.size≠w.heap.size:=Nat.ne_of_gt l_R
  have o_T:w.heap.size≤e2.heap.size:=HKe2.out.size
  have g_T:13<e2.heap.size:=Nat.lt_trans g_p l_p
  have Rw3_R:=Lib.hid (Kw3.at Re2_R.out (by simp))
  have HKw3:=Lib.hid (HKe2.out.trans Kw3 (by simp))
  have HPw3:=Lib.hid (HPe2.out.keep Kw3)
  have Rw3_T:=Lib.hid cw3_T
  clear Kw3 cw3_T l_p l_R Re2_R HKe2 HPe2
  refine (ok_any HPw3.out).mono ?_
  rintro r w' ⟨rfl,hw'⟩
  rw [hw']
  clear hw'
  have l_p:=h_lt HPw3.out.row
  have l_R:=h_lt Rw3_R.out
  obtain ⟨l_T,xT_0,xT_1,xT_2,xT_3,xT_4,yT_0,yT_1,yT_2,yT_3,yT_4⟩:=cf5 Rw3_T.out
  go_wp2_with fail
  clear l_p l_R l_T xT_0 xT_1 xT_2 xT_3 xT_4 yT_0 yT_1 yT_2 yT_3 yT_4
  refine (place_tok HPw3.out ⟨2,tx,nm,fr,te⟩ le3).mono ?_
  rintro r e4 ⟨rfl,hk⟩
  have Re4_R:=Lib.hid (hk.at Rw3_R.out (by simp))
  have Re4_T:=Lib.hid (hk.at Rw3_T.out (by simp))
  have HKe4:=Lib.hid (HKw3.out.trans hk (by simp))
  have HPe4:=Lib.hid (HPw3.out.keep hk)
  clear hk Rw3_R Rw3_T HKw3 HPw3
  obtain ⟨l_p,xp_0,xp_1,xp_2,xp_3,xp_4,xp_5,yp_0,yp_1,yp_2,yp_3,yp_4,yp_5⟩:=cf6 HPe4.out.row
  obtain ⟨l_R,xR_0,xR_1,xR_2,xR_3,xR_4,yR_0,yR_1,yR_2,yR_3,yR_4⟩:=cf5 Re4_R.out
  obtain ⟨l_T,xT_0,xT_1,xT_2,xT_3,xT_4,yT_0,yT_1,yT_2,yT_3,yT_4⟩:=cf5 Re4_T.out
  go_wp2_with fail
  refine ret_at (v:= .agg #[.int .i64 1,.string ⟨#[]⟩,.float .f64 nm,.slice none 0 0,.complex .f64 (placeOf s fr).1 (placeOf s fr).2]) (fun W=>Keeps [p,w.heap.size] e4 W∧W.heap[p]? =some (.cells #[.string s,.int .i64 te,.int .i64 st.opn,.bool st.ng,.int .i64 0,.complex .f64 0 0] 106 (0,0))∧W.heap[w.heap.size]? =some (.cells #[.int .i64 1,.string ⟨#[]⟩,.float .f64 nm,.slice none 0 0,.complex .f64 (placeOf s fr).1 (placeOf s fr).2] 58 (0,0))) ⟨(by with_reducible repeat (first|exact k0 _ _|refine kA ?_ _|refine kD ?_|refine kS ?_ (by simp)|refine kM ?_ (by simp))),(by simp only [hS,hA,hD,hM,reduceIte,Option.map_some,Obj.put,HPe4.out.row,Re4_R.out,n_p_R,n_R_p,Nat.ne_of_lt l_p,Nat.ne_of_gt l_p,Nat.ne_of_lt l_R,Nat.ne_of_gt l_R]<;>rfl),(by simp only [hS,hA,hD,hM,reduceIte,Option.map_some,Obj.put,HPe4.out.row,Re4_R.out,n_p_R,n_R_p,Nat.ne_of_lt l_p,Nat.ne_of_gt l_p,Nat.ne_of_lt l_R,Nat.ne_of_gt l_R]<;>rfl)⟩ (fun w5 hW=> ?_) rfl (fun w5 hW=> ?_)
  · obtain ⟨Kw5,cw5_p,cw5_R⟩:=hW
    have q0:=cell_of_heap cw5_R 0
    have q1:=cell_of_heap cw5_R 1
    have q2:=cell_of_heap cw5_R 2
    have q3:=cell_of_heap cw5_R 3
    have q4:=cell_of_heap cw5_R 4
    simp at q0 q1 q2 q3 q4
    simp [results,Tryz.results267,go_sem,q0,q1,q2,q3,q4]
  · obtain ⟨Kw5,cw5_p,cw5_R⟩:=hW
    have Rw5_T:=Lib.hid (Kw5.at Re4_T.out (by simp [n_T_p,n_T_R]))
    have HKw5:=Lib.hid (HKe4.out.trans Kw5 (by simp [o_R]))
    have HPw5:Hid (PP s p ⟨te,st.opn,st.ng⟩ w5):=Lib.hid (HPe4.out.upd Kw5 (by simp [g_p,g_R]) cw5_p (by first|assumption|exact HPe4.out.le) HPe4.out.ob)
    have Rw5_R:=Lib.hid cw5_R
    clear Kw5 cw5_p cw5_R l_p xp_0 xp_1 xp_2 xp_3 xp_4 xp_5 yp_0 yp_1 yp_2 yp_3 yp_4 yp_5 l_R xR_0 xR_1 xR_2 xR_3 xR_4 yR_0 yR_1 yR_2 yR_3 yR_4 l_T xT_0 xT_1 xT_2 xT_3 xT_4 yT_0 yT_1 yT_2 yT_3 yT_4 Re4_T HKe4 HPe4 Re4_R
    exact ⟨_,rfl,.mk .nil,HPw5.out,HKw5.out⟩

theorem operand_text{s:ByteArray}{p:Nat}{st:PSt}{tx:ByteArray}{nm fr te:Nat}(ht:nextF s st.pos true=some ⟨3,tx,nm,fr,te⟩)(h256:(tx.size:Int)≤256):Hands s p st ⟨te,st.opn,st.ng⟩ (.mk 2 tx 0 [] (placeOf s fr).1 (placeOf s fr).2) 267:=by
  intro w h
  have g_p:=h.p
  obtain ⟨le1,le2,-⟩:=nextF_le ht h.le
  simp only at le1 le2
  have le3:=Nat.le_trans le1 le2
  have HP0:=Lib.hid h;have HK0:=Lib.hid (Keeps.refl [p] w);have HT:=Lib.hid ht
  clear h ht le1

  go_enter Tryz.func267,Tryz.ntmps267
  have l_p:=h_lt HP0.out.row
  go_wp2_with fail
  refine calls_at (fun W=>Keeps [] w W∧W.heap[w.heap.size]? =some (.cells #[.int .i64 0,.string ⟨#[]⟩,.float .f64 0,.slice none 0 0,.complex .f64 0 0] 58 (0,0))) ⟨(by with_reducible repeat (first|exact k0 _ _|refine kA ?_ _|refine kD ?_|refine kS ?_ (by simp)|refine kM ?_ (by simp))),(by simp only [hS,hA,hD,hM,World.size_setCell,World.size_drew,reduceIte,Option.map_some,Obj.put]<;>rfl)⟩ ?_
  rintro w1 ⟨Kw1,cw1_R⟩
  have n_p_R:p≠w.heap.size:=Nat.ne_of_lt l_p
  have n_R_p:w.heap.size≠p:=Nat.ne_of_gt l_p
  have o_R:w.heap.size≤w.heap.size:=Nat.le_refl _
  have g_R:13<w.heap.size:=Nat.lt_trans g_p l_p
  have HKw1:=Lib.hid (HK0.out.trans Kw1 (by simp))
  have HPw1:=Lib.hid (HP0.out.keep Kw1)
  have Rw1_R:=Lib.hid cw1_R
  clear Kw1 cw1_R l_p HK0 HP0
  refine (see_any HPw1.out HT.out).mono ?_
  rintro r e2 ⟨rfl,hk⟩
  have Re2_R:=Lib.hid (hk.at Rw1_R.out (by simp))
  have HKe2:=Lib.hid (HKw1.out.trans hk (by simp))
  have HPe2:=Lib.hid (HPw1.out.keep hk)
  clear hk Rw1_R HKw1 HPw1
  have l_p:=h_lt HPe2.out.row
  have l_R:=h_lt Re2_R.out
  go_wp2_with fail
  refine calls_at (fun W=>Keeps [] e2 W∧W.heap[e2.heap.size]? =some (.cells #[.int .i64 3,.string tx,.float .f64 nm,.int .i64 fr,.int .i64 te] 109 (0,0))) ⟨(by with_reducible repeat (first|exact k0 _ _|refine kA ?_ _|refine kD ?_|refine kS ?_ (by simp)|refine kM ?_ (by simp))),(by simp only [hS,hA,hD,hM,World.size_setCell,World.size_drew,reduceIte,Option.map_some,Obj.put]<;>rfl)⟩ ?_
  rintro w3 ⟨Kw3,cw3_T⟩
  have n_p_T:p≠e2.heap.size:=Nat.ne_of_lt l_p
  have n_T_p:e2.heap.size≠p:=Nat.ne_of_gt l_p
  have n_R_T:w.heap.size≠e2.heap.size:=Nat.ne_of_lt l_R
  have n_T_R:e2.heap.size≠w.heap.size:=Nat.ne_of_gt l_R
  have o_T:w.heap.size≤e2.heap.size:=HKe2.out.size
  have g_T:13<e2.heap.size:=Nat.lt_trans g_p l_p
  have Rw3_R:=Lib.hid (Kw3.at Re2_R.out (by simp))
  have HKw3:=Lib.hid (HKe2.out.trans Kw3 (by simp))
  have HPw3:=Lib.hid (HPe2.out.keep Kw3)
  have Rw3_T:=Lib.hid cw3_T
  clear Kw3 cw3_T l_p l_R Re2_R HKe2 HPe2
  refine (ok_any HPw3.out).mono ?_
  rintro r w' ⟨rfl,hw'⟩
  rw [hw']
  clear hw'
  have l_p:=h_lt HPw3.out.row
  have l_R:=h_lt Rw3_R.out
  obtain ⟨l_T,xT_0,xT_1,xT_2,xT_3,xT_4,yT_0,yT_1,yT_2,yT_3,yT_4⟩:=cf5 Rw3_T.out
  go_wp2_with fail
  clear l_p l_R l_T xT_0 xT_1 xT_2 xT_3 xT_4 yT_0 yT_1 yT_2 yT_3 yT_4
  refine (place_tok HPw3.out ⟨3,tx,nm,fr,te⟩ le3).mono ?_
  rintro r e4 ⟨rfl,hk⟩
  have Re4_R:=Lib.hid (hk.at Rw3_R.out (by simp))
  have Re4_T:=Lib.hid (hk.at Rw3_T.out (by simp))
  have HKe4:=Lib.hid (HKw3.out.trans hk (by simp))
  have HPe4:=Lib.hid (HPw3.out.keep hk)
  clear hk Rw3_R Rw3_T HKw3 HPw3
  obtain ⟨l_p,xp_0,xp_1,xp_2,xp_3,xp_4,xp_5,yp_0,yp_1,yp_2,yp_3,yp_4,yp_5⟩:=cf6 HPe4.out.row
  obtain ⟨l_R,xR_0,xR_1,xR_2,xR_3,xR_4,yR_0,yR_1,yR_2,yR_3,yR_4⟩:=cf5 Re4_R.out
  obtain ⟨l_T,xT_0,xT_1,xT_2,xT_3,xT_4,yT_0,yT_1,yT_2,yT_3,yT_4⟩:=cf5 Re4_T.out
  go_wp2_with fail
  refine ret_at (v:= .agg #[.int .i64 2,.string tx,.float .f64 0,.slice none 0 0,.complex .f64 (placeOf s fr).1 (placeOf s fr).2]) (fun W=>Keeps [p,w.heap.size] e4 W∧W.heap[p]? =some (.cells #[.string s,.int .i64 te,.int .i64 st.opn,.bool st.ng,.int .i64 0,.complex .f64 0 0] 106 (0,0))∧W.heap[w.heap.size]? =some (.cells #[.int .i64 2,.string tx,.float .f64 0,.slice none 0 0,.complex .f64 (placeOf s fr).1 (placeOf s fr).2] 58 (0,0))) ⟨(by with_reducible repeat (first|exact k0 _ _|refine kA ?_ _|refine kD ?_|refine kS ?_ (by simp)|refine kM ?_ (by simp))),(by simp only [hS,hA,hD,hM,reduceIte,Option.map_some,Obj.put,HPe4.out.row,Re4_R.out,n_p_R,n_R_p,Nat.ne_of_lt l_p,Nat.ne_of_gt l_p,Nat.ne_of_lt l_R,Nat.ne_of_gt l_R]<;>rfl),(by simp only [hS,hA,hD,hM,reduceIte,Option.map_some,Obj.put,HPe4.out.row,Re4_R.out,n_p_R,n_R_p,Nat.ne_of_lt l_p,Nat.ne_of_gt l_p,Nat.ne_of_lt l_R,Nat.ne_of_gt l_R]<;>rfl)⟩ (fun w5 hW=> ?_) rfl (fun w5 hW=> ?_)
  · obtain ⟨Kw5,cw5_p,cw5_R⟩:=hW
    have q0:=cell_of_heap cw5_R 0
    have q1:=cell_of_heap cw5_R 1
    have q2:=cell_of_heap cw5_R 2
    have q3:=cell_of_heap cw5_R 3
    have q4:=cell_of_heap cw5_R 4
    simp at q0 q1 q2 q3 q4
    simp [results,Tryz.results267,go_sem,q0,q1,q2,q3,q4]
  · obtain ⟨Kw5,cw5_p,cw5_R⟩:=hW
    have Rw5_T:=Lib.hid (Kw5.at Re4_T.out (by simp [n_T_p,n_T_R]))
    have HKw5:=Lib.hid (HKe4.out.trans Kw5 (by simp [o_R]))
    have HPw5:Hid (PP s p ⟨te,st.opn,st.ng⟩ w5):=Lib.hid (HPe4.out.upd Kw5 (by simp [g_p,g_R]) cw5_p (by first|assumption|exact HPe4.out.le) HPe4.out.ob)
    have Rw5_R:=Lib.hid cw5_R
    clear Kw5 cw5_p cw5_R l_p xp_0 xp_1 xp_2 xp_3 xp_4 xp_5 yp_0 yp_1 yp_2 yp_3 yp_4 yp_5 l_R xR_0 xR_1 xR_2 xR_3 xR_4 yR_0 yR_1 yR_2 yR_3 yR_4 l_T xT_0 xT_1 xT_2 xT_3 xT_4 yT_0 yT_1 yT_2 yT_3 yT_4 Re4_T HKe4 HPe4 Re4_R
    exact ⟨_,rfl,.mk .nil,HPw5.out,HKw5.out⟩

theorem operand_var{s:ByteArray}{p:Nat}{st:PSt}{tx:ByteArray}{nm fr te:Nat}(ht:nextF s st.pos true=some ⟨5,tx,nm,fr,te⟩){st2:PSt}(hx:takeF s ⟨te,st.opn,st.ng⟩ ⟨#[91]⟩=some (false,st2)):Hands s p st st2 (.mk 4 tx 0 [] (placeOf s fr).1 (placeOf s fr).2) 267:=by
  intro w h
  have g_p:=h.p
  obtain ⟨le1,le2,-⟩:=nextF_le ht h.le
  simp only at le1 le2
  have le3:=Nat.le_trans le1 le2
  have HP0:=Lib.hid h;have HK0:=Lib.hid (Keeps.refl [p] w);have HT:=Lib.hid ht;have HX:=Lib.hid hx
  clear h ht le1 hx

  go_enter Tryz.func267,Tryz.ntmps267
  have l_p:=h_lt HP0.out.row
  go_wp2_with fail
  refine calls_at (fun W=>Keeps [] w W∧W.heap[w.heap.size]? =some (.cells #[.int .i64 0,.string ⟨#[]⟩,.float .f64 0,.slice none 0 0,.complex .f64 0 0] 58 (0,0))) ⟨(by with_reducible repeat (first|exact k0 _ _|refine kA ?_ _|refine kD ?_|refine kS ?_ (by simp)|refine kM ?_ (by simp))),(by simp only [hS,hA,hD,hM,World.size_setCell,World.size_drew,reduceIte,Option.map_some,Obj.put]<;>rfl)⟩ ?_
  rintro w1 ⟨Kw1,cw1_R⟩
  have n_p_R:p≠w.heap.size:=Nat.ne_of_lt l_p
  have n_R_p:w.heap.size≠p:=Nat.ne_of_gt l_p
  have o_R:w.heap.size≤w.heap.size:=Nat.le_refl _
  have g_R:13<w.heap.size:=Nat.lt_trans g_p l_p
  have HKw1:=Lib.hid (HK0.out.trans Kw1 (by simp))
  have HPw1:=Lib.hid (HP0.out.keep Kw1)
  have Rw1_R:=Lib.hid cw1_R
  clear Kw1 cw1_R l_p HK0 HP0
  refine (see_any HPw1.out HT.out).mono ?_
  rintro r e2 ⟨rfl,hk⟩
  have Re2_R:=Lib.hid (hk.at Rw1_R.out (by simp))
  have HKe2:=Lib.hid (HKw1.out.trans hk (by simp))
  have HPe2:=Lib.hid (HPw1.out.keep hk)
  clear hk Rw1_R HKw1 HPw1
  have l_p:=h_lt HPe2.out.row
  have l_R:=h_lt Re2_R.out
  go_wp2_with fail
  refine calls_at (fun W=>Keeps [] e2 W∧W.heap[e2.heap.size]? =some (.cells #[.int .i64 5,.string tx,.float .f64 nm,.int .i64 fr,.int .i64 te] 109 (0,0))) ⟨(by with_reducible repeat (first|exact k0 _ _|refine kA ?_ _|refine kD ?_|refine kS ?_ (by simp)|refine kM ?_ (by simp))),(by simp only [hS,hA,hD,hM,World.size_setCell,World.size_drew,reduceIte,Option.map_some,Obj.put]<;>rfl)⟩ ?_
  rintro w3 ⟨Kw3,cw3_T⟩
  have n_p_T:p≠e2.heap.size:=Nat.ne_of_lt l_p
  have n_T_p:e2.heap.size≠p:=Nat.ne_of_gt l_p
  have n_R_T:w.heap.size≠e2.heap.size:=Nat.ne_of_lt l_R
  have n_T_R:e2.heap.size≠w.heap.size:=Nat.ne_of_gt l_R
  have o_T:w.heap.size≤e2.heap.size:=HKe2.out.size
  have g_T:13<e2.heap.size:=Nat.lt_trans g_p l_p
  have Rw3_R:=Lib.hid (Kw3.at Re2_R.out (by simp))
  have HKw3:=Lib.hid (HKe2.out.trans Kw3 (by simp))
  have HPw3:=Lib.hid (HPe2.out.keep Kw3)
  have Rw3_T:=Lib.hid cw3_T
  clear Kw3 cw3_T l_p l_R Re2_R HKe2 HPe2
  refine (ok_any HPw3.out).mono ?_
  rintro r w' ⟨rfl,hw'⟩
  rw [hw']
  clear hw'
  have l_p:=h_lt HPw3.out.row
  have l_R:=h_lt Rw3_R.out
  obtain ⟨l_T,xT_0,xT_1,xT_2,xT_3,xT_4,yT_0,yT_1,yT_2,yT_3,yT_4⟩:=cf5 Rw3_T.out
  go_wp2_with fail
  clear l_p l_R l_T xT_0 xT_1 xT_2 xT_3 xT_4 yT_0 yT_1 yT_2 yT_3 yT_4
  refine (place_tok HPw3.out ⟨5,tx,nm,fr,te⟩ le3).mono ?_
  rintro r e4 ⟨rfl,hk⟩
  have Re4_R:=Lib.hid (hk.at Rw3_R.out (by simp))
  have Re4_T:=Lib.hid (hk.at Rw3_T.out (by simp))
  have HKe4:=Lib.hid (HKw3.out.trans hk (by simp))
  have HPe4:=Lib.hid (HPw3.out.keep hk)
  clear hk Rw3_R Rw3_T HKw3 HPw3
  obtain ⟨l_p,xp_0,xp_1,xp_2,xp_3,xp_4,xp_5,yp_0,yp_1,yp_2,yp_3,yp_4,yp_5⟩:=cf6 HPe4.out.row
  have l_R:=h_lt Re4_R.out
  obtain ⟨l_T,xT_0,xT_1,xT_2,xT_3,xT_4,yT_0,yT_1,yT_2,yT_3,yT_4⟩:=cf5 Re4_T.out
  go_wp2_with fail
  refine calls_at (fun W=>Keeps [p] e4 W∧W.heap[p]? =some (.cells #[.string s,.int .i64 te,.int .i64 st.opn,.bool st.ng,.int .i64 0,.complex .f64 0 0] 106 (0,0))) ⟨(by with_reducible repeat (first|exact k0 _ _|refine kA ?_ _|refine kD ?_|refine kS ?_ (by simp)|refine kM ?_ (by simp))),(by simp only [hS,hA,hD,hM,reduceIte,Option.map_some,Obj.put,HPe4.out.row,Nat.ne_of_lt l_p,Nat.ne_of_gt l_p]<;>rfl)⟩ ?_
  rintro w5 ⟨Kw5,cw5_p⟩
  have Rw5_R:=Lib.hid (Kw5.at Re4_R.out (by simp [n_R_p]))
  have Rw5_T:=Lib.hid (Kw5.at Re4_T.out (by simp [n_T_p]))
  have HKw5:=Lib.hid (HKe4.out.trans Kw5 (by simp))
  have HPw5:Hid (PP s p ⟨te,st.opn,st.ng⟩ w5):=Lib.hid (HPe4.out.upd Kw5 (by simp [g_p]) cw5_p (by first|assumption|exact HPe4.out.le) HPe4.out.ob)
  clear Kw5 cw5_p l_p xp_0 xp_1 xp_2 xp_3 xp_4 xp_5 yp_0 yp_1 yp_2 yp_3 yp_4 yp_5 l_R l_T xT_0 xT_1 xT_2 xT_3 xT_4 yT_0 yT_1 yT_2 yT_3 yT_4 Re4_R Re4_T HKe4 HPe4
  refine (take_any HPw5.out HX.out).mono ?_
  rintro r e6 ⟨rfl,hp,hk⟩
  have Re6_R:=Lib.hid (hk.at Rw5_R.out (by simp [n_R_p]))
  have Re6_T:=Lib.hid (hk.at Rw5_T.out (by simp [n_T_p]))
  have HKe6:=Lib.hid (HKw5.out.trans hk (by simp))
  have HPne6:=Lib.hid hp
  clear hp
  clear hk Rw5_R Rw5_T HKw5 HPw5
  have l_p:=h_lt HPne6.out.row
  obtain ⟨l_R,xR_0,xR_1,xR_2,xR_3,xR_4,yR_0,yR_1,yR_2,yR_3,yR_4⟩:=cf5 Re6_R.out
  obtain ⟨l_T,xT_0,xT_1,xT_2,xT_3,xT_4,yT_0,yT_1,yT_2,yT_3,yT_4⟩:=cf5 Re6_T.out
  go_wp2_with fail
  refine ret_at (v:= .agg #[.int .i64 4,.string tx,.float .f64 0,.slice none 0 0,.complex .f64 (placeOf s fr).1 (placeOf s fr).2]) (fun W=>Keeps [w.heap.size] e6 W∧W.heap[w.heap.size]? =some (.cells #[.int .i64 4,.string tx,.float .f64 0,.slice none 0 0,.complex .f64 (placeOf s fr).1 (placeOf s fr).2] 58 (0,0))) ⟨(by with_reducible repeat (first|exact k0 _ _|refine kA ?_ _|refine kD ?_|refine kS ?_ (by simp)|refine kM ?_ (by simp))),(by simp only [hS,hA,hD,hM,reduceIte,Option.map_some,Obj.put,Re6_R.out,Nat.ne_of_lt l_R,Nat.ne_of_gt l_R]<;>rfl)⟩ (fun w7 hW=> ?_) rfl (fun w7 hW=> ?_)
  · obtain ⟨Kw7,cw7_R⟩:=hW
    have q0:=cell_of_heap cw7_R 0
    have q1:=cell_of_heap cw7_R 1
    have q2:=cell_of_heap cw7_R 2
    have q3:=cell_of_heap cw7_R 3
    have q4:=cell_of_heap cw7_R 4
    simp at q0 q1 q2 q3 q4
    simp [results,Tryz.results267,go_sem,q0,q1,q2,q3,q4]
  · obtain ⟨Kw7,cw7_R⟩:=hW
    have Rw7_T:=Lib.hid (Kw7.at Re6_T.out (by simp [n_T_R]))
    have HKw7:=Lib.hid (HKe6.out.trans Kw7 (by simp [o_R]))
    have HPw7:=Lib.hid (HPne6.out.keepN Kw7 (by simp [n_p_R]) (by simp [g_R]))
    have Rw7_R:=Lib.hid cw7_R
    clear Kw7 cw7_R l_p l_R xR_0 xR_1 xR_2 xR_3 xR_4 yR_0 yR_1 yR_2 yR_3 yR_4 l_T xT_0 xT_1 xT_2 xT_3 xT_4 yT_0 yT_1 yT_2 yT_3 yT_4 Re6_T HKe6 HPne6 Re6_R
    exact ⟨_,rfl,.mk .nil,HPw7.out,HKw7.out⟩
end Go.Proofs.YteafcepaolofpaaGreatDoor
end
section
/- operand: entries, fields, calls, walked. Made by a program (parse.py, walk.py). -/
namespace Go.Proofs.YteafcepaolofpaaGreatDoor
open Go.RowKit

/-- What 'call' does. -/
def CallH(s:ByteArray)(p:Nat)(t:Tok)(re im:Nat)(st st':PSt)(n:Node):Prop:=
  ∀w,PP s p st w→Calls Tryz.prog 269 #[.pointer (some ⟨p,0,none⟩),tokV t,.complex .f64 re im] w fun r w'=>∃v,r= .returned v∧NodeR w' (fun g=>w.heap.size≤g) n v∧PP s p st' w'∧Keeps [p] w w'

theorem operand_dollar{s:ByteArray}{p:Nat}{st:PSt}{tx:ByteArray}{nm fr te:Nat}(ht:nextF s st.pos true=some ⟨9,tx,nm,fr,te⟩){st2:PSt}{n:Node}(htx:(tx.toList== [36])=true)(hd:Hands s p ⟨te,st.opn,st.ng⟩ st2 n 270):Hands s p st st2 (.mk 6 ⟨#[]⟩ 0 [n] (placeOf s fr).1 (placeOf s fr).2) 267:=by
  intro w h
  have g_p:=h.p
  obtain ⟨le1,le2,-⟩:=nextF_le ht h.le
  simp only at le1 le2
  have le3:=Nat.le_trans le1 le2
  have HP0:=Lib.hid h;have HK0:=Lib.hid (Keeps.refl [p] w);have HT:=Lib.hid ht;have HD:=Lib.hid hd
  clear h ht le1 hd

  go_enter Tryz.func267,Tryz.ntmps267
  have l_p:=h_lt HP0.out.row
  go_wp2_with fail
  refine calls_at (fun W=>Keeps [] w W∧W.heap[w.heap.size]? =some (.cells #[.int .i64 0,.string ⟨#[]⟩,.float .f64 0,.slice none 0 0,.complex .f64 0 0] 58 (0,0))) ⟨(by with_reducible repeat (first|exact k0 _ _|refine kA ?_ _|refine kD ?_|refine kS ?_ (by simp)|refine kM ?_ (by simp))),(by simp only [hS,hA,hD,hM,World.size_setCell,World.size_drew,reduceIte,Option.map_some,Obj.put]<;>rfl)⟩ ?_
  rintro w1 ⟨Kw1,cw1_R⟩
  have n_p_R:p≠w.heap.size:=Nat.ne_of_lt l_p
  have n_R_p:w.heap.size≠p:=Nat.ne_of_gt l_p
  have o_R:w.heap.size≤w.heap.size:=Nat.le_refl _
  have g_R:13<w.heap.size:=Nat.lt_trans g_p l_p
  have HKw1:=Lib.hid (HK0.out.trans Kw1 (by simp))
  have HPw1:=Lib.hid (HP0.out.keep Kw1)
  have Rw1_R:=Lib.hid cw1_R
  clear Kw1 cw1_R l_p HK0 HP0
  refine (see_any HPw1.out HT.out).mono ?_
  rintro r e2 ⟨rfl,hk⟩
  have Re2_R:=Lib.hid (hk.at Rw1_R.out (by simp))
  have HKe2:=Lib.hid (HKw1.out.trans hk (by simp))
  have HPe2:=Lib.hid (HPw1.out.keep hk)
  clear hk Rw1_R HKw1 HPw1
  have l_p:=h_lt HPe2.out.row
  have l_R:=h_lt Re2_R.out
  go_wp2_with fail
  refine calls_at (fun W=>Keeps [] e2 W∧W.heap[e2.heap.size]? =some (.cells #[.int .i64 9,.string tx,.float .f64 nm,.int .i64 fr,.int .i64 te] 109 (0,0))) ⟨(by with_reducible repeat (first|exact k0 _ _|refine kA ?_ _|refine kD ?_|refine kS ?_ (by simp)|refine kM ?_ (by simp))),(by simp only [hS,hA,hD,hM,World.size_setCell,World.size_drew,reduceIte,Option.map_some,Obj.put]<;>rfl)⟩ ?_
  rintro w3 ⟨Kw3,cw3_T⟩
  have n_p_T:p≠e2.heap.size:=Nat.ne_of_lt l_p
  have n_T_p:e2.heap.size≠p:=Nat.ne_of_gt l_p
  have n_R_T:w.heap.size≠e2.heap.size:=Nat.ne_of_lt l_R
  have n_T_R:e2.heap.size≠w.heap.size:=Nat.ne_of_gt l_R
  have o_T:w.heap.size≤e2.heap.size:=HKe2.out.size
  have g_T:13<e2.heap.size:=Nat.lt_trans g_p l_p
  have Rw3_R:=Lib.hid (Kw3.at Re2_R.out (by simp))
  have HKw3:=Lib.hid (HKe2.out.trans Kw3 (by simp))
  have HPw3:=Lib.hid (HPe2.out.keep Kw3)
  have Rw3_T:=Lib.hid cw3_T
  clear Kw3 cw3_T l_p l_R Re2_R HKe2 HPe2
  refine (ok_any HPw3.out).mono ?_
  rintro r w' ⟨rfl,hw'⟩
  rw [hw']
  clear hw'
  have l_p:=h_lt HPw3.out.row
  have l_R:=h_lt Rw3_R.out
  obtain ⟨l_T,xT_0,xT_1,xT_2,xT_3,xT_4,yT_0,yT_1,yT_2,yT_3,yT_4⟩:=cf5 Rw3_T.out
  go_wp2_with fail
  clear l_p l_R l_T xT_0 xT_1 xT_2 xT_3 xT_4 yT_0 yT_1 yT_2 yT_3 yT_4
  refine (place_tok HPw3.out ⟨9,tx,nm,fr,te⟩ le3).mono ?_
  rintro r e4 ⟨rfl,hk⟩
  have Re4_R:=Lib.hid (hk.at Rw3_R.out (by simp))
  have Re4_T:=Lib.hid (hk.at Rw3_T.out (by simp))
  have HKe4:=Lib.hid (HKw3.out.trans hk (by simp))
  have HPe4:=Lib.hid (HPw3.out.keep hk)
  clear hk Rw3_R Rw3_T HKw3 HPw3
  obtain ⟨l_p,xp_0,xp_1,xp_2,xp_3,xp_4,xp_5,yp_0,yp_1,yp_2,yp_3,yp_4,yp_5⟩:=cf6 HPe4.out.row
  have l_R:=h_lt Re4_R.out
  obtain ⟨l_T,xT_0,xT_1,xT_2,xT_3,xT_4,yT_0,yT_1,yT_2,yT_3,yT_4⟩:=cf5 Re4_T.out
  go_wp2_with fail
  refine calls_at (fun W=>Keeps [p] e4 W∧W.heap[p]? =some (.cells #[.string s,.int .i64 te,.int .i64 st.opn,.bool st.ng,.int .i64 0,.complex .f64 0 0] 106 (0,0))) ⟨(by with_reducible repeat (first|exact k0 _ _|refine kA ?_ _|refine kD ?_|refine kS ?_ (by simp)|refine kM ?_ (by simp))),(by simp only [hS,hA,hD,hM,reduceIte,Option.map_some,Obj.put,HPe4.out.row,Nat.ne_of_lt l_p,Nat.ne_of_gt l_p]<;>rfl)⟩ ?_
  rintro w5 ⟨Kw5,cw5_p⟩
  have Rw5_R:=Lib.hid (Kw5.at Re4_R.out (by simp [n_R_p]))
  have Rw5_T:=Lib.hid (Kw5.at Re4_T.out (by simp [n_T_p]))
  have HKw5:=Lib.hid (HKe4.out.trans Kw5 (by simp))
  have HPw5:Hid (PP s p ⟨te,st.opn,st.ng⟩ w5):=Lib.hid (HPe4.out.upd Kw5 (by simp [g_p]) cw5_p (by first|assumption|exact HPe4.out.le) HPe4.out.ob)
  clear Kw5 cw5_p l_p xp_0 xp_1 xp_2 xp_3 xp_4 xp_5 yp_0 yp_1 yp_2 yp_3 yp_4 yp_5 l_R l_T xT_0 xT_1 xT_2 xT_3 xT_4 yT_0 yT_1 yT_2 yT_3 yT_4 Re4_R Re4_T HKe4 HPe4
  refine (HD.out _ HPw5.out).mono ?_
  rintro r e6 ⟨v,rfl,hn,hp,hk⟩
  have Re6_R:=Lib.hid (hk.at Rw5_R.out (by simp [n_R_p]))
  have Re6_T:=Lib.hid (hk.at Rw5_T.out (by simp [n_T_p]))
  have HKe6:=Lib.hid (HKw5.out.trans hk (by simp))
  have HPne6:=Lib.hid hp
  have ne6:=Lib.hid hn.seg
  have o_n:w.heap.size≤w5.heap.size:=HKw5.out.size
  have ns_n_p:¬(Seg w5.heap.size e6.heap.size) (p):=fun h=>Nat.not_lt_of_le h.1 (h_lt HPw5.out.row)
  have ns_n_R:¬(Seg w5.heap.size e6.heap.size) (w.heap.size):=fun h=>Nat.not_lt_of_le h.1 (h_lt Rw5_R.out)
  have ns_n_T:¬(Seg w5.heap.size e6.heap.size) (e2.heap.size):=fun h=>Nat.not_lt_of_le h.1 (h_lt Rw5_T.out)
  have up_n:∀g,(Seg w5.heap.size e6.heap.size) g→g<e6.heap.size:=fun _ h=>h.2
  have dn_n:∀g,(Seg w5.heap.size e6.heap.size) g→w.heap.size≤g:=fun _ h=>Nat.le_trans o_n h.1
  obtain ⟨nt,nm,na,nl,nc,nr,ni,rfl,-,-⟩:=hn.shape
  clear hn hp
  clear hk Rw5_R Rw5_T HKw5 HPw5
  have l_p:=h_lt HPne6.out.row
  obtain ⟨l_R,xR_0,xR_1,xR_2,xR_3,xR_4,yR_0,yR_1,yR_2,yR_3,yR_4⟩:=cf5 Re6_R.out
  have l_T:=h_lt Re6_T.out
  go_wp2_with fail
  refine ret_at (v:= .agg #[.int .i64 6,.string ⟨#[]⟩,.float .f64 0,.slice (some ⟨e6.heap.size,0,none⟩) 1 1,.complex .f64 (placeOf s fr).1 (placeOf s fr).2]) (fun W=>Keeps [w.heap.size] e6 W∧W.heap[w.heap.size]? =some (.cells #[.int .i64 6,.string ⟨#[]⟩,.float .f64 0,.slice (some ⟨e6.heap.size,0,none⟩) 1 1,.complex .f64 (placeOf s fr).1 (placeOf s fr).2] 58 (0,0))∧W.heap[e6.heap.size]? =some (.cells #[.int .i64 n.kind,.string nt,.float .f64 nm,.slice na nl nc,.complex .f64 nr ni] 58 (0,0))) ⟨(by with_reducible repeat (first|exact k0 _ _|refine kA ?_ _|refine kD ?_|refine kS ?_ (by simp)|refine kM ?_ (by simp))),(by simp only [hS,hA,hD,hM,World.size_setCell,World.size_drew,reduceIte,Option.map_some,Obj.put,Re6_R.out,Nat.ne_of_lt l_R,Nat.ne_of_gt l_R]<;>rfl),(by simp only [hS,hA,hD,hM,World.size_setCell,World.size_drew,reduceIte,Option.map_some,Obj.put,Re6_R.out,Nat.ne_of_lt l_R,Nat.ne_of_gt l_R]<;>rfl)⟩ (fun w7 hW=> ?_) rfl (fun w7 hW=> ?_)
  · obtain ⟨Kw7,cw7_R,cw7_G⟩:=hW
    have q0:=cell_of_heap cw7_R 0
    have q1:=cell_of_heap cw7_R 1
    have q2:=cell_of_heap cw7_R 2
    have q3:=cell_of_heap cw7_R 3
    have q4:=cell_of_heap cw7_R 4
    simp at q0 q1 q2 q3 q4
    simp [results,Tryz.results267,go_sem,q0,q1,q2,q3,q4]
  · obtain ⟨Kw7,cw7_R,cw7_G⟩:=hW
    have n_p_G:p≠e6.heap.size:=Nat.ne_of_lt l_p
    have n_G_p:e6.heap.size≠p:=Nat.ne_of_gt l_p
    have n_R_G:w.heap.size≠e6.heap.size:=Nat.ne_of_lt l_R
    have n_G_R:e6.heap.size≠w.heap.size:=Nat.ne_of_gt l_R
    have n_T_G:e2.heap.size≠e6.heap.size:=Nat.ne_of_lt l_T
    have n_G_T:e6.heap.size≠e2.heap.size:=Nat.ne_of_gt l_T
    have o_G:w.heap.size≤e6.heap.size:=HKe6.out.size
    have g_G:13<e6.heap.size:=Nat.lt_trans g_p l_p
    have ns_n_G:¬(Seg w5.heap.size e6.heap.size) (e6.heap.size):=fun h=>Nat.not_lt_of_le ((Nat.le_refl e6.heap.size)) (up_n _ h)
    have Rw7_T:=Lib.hid (Kw7.at Re6_T.out (by simp [n_T_R]))
    have HKw7:=Lib.hid (HKe6.out.trans Kw7 (by simp [o_R]))
    have HPw7:=Lib.hid (HPne6.out.keepN Kw7 (by simp [n_p_R]) (by simp [g_R]))
    have nw7:=Lib.hid (ne6.out.kp Kw7 (by simp [ns_n_R]))
    have us_nw7:=Nat.le_trans (Nat.le_refl e6.heap.size) Kw7.size
    have Rw7_R:=Lib.hid cw7_R
    have Rw7_G:=Lib.hid cw7_G
    clear Kw7 cw7_R cw7_G l_p l_R xR_0 xR_1 xR_2 xR_3 xR_4 yR_0 yR_1 yR_2 yR_3 yR_4 l_T Re6_T HKe6 HPne6 ne6 Re6_R
    exact ⟨_,rfl,.mk (.some (S:=fun g=>w.heap.size≤g) o_G (h_lt Rw7_G.out) (row1 nw7.out dn_n Rw7_G.out)),HPw7.out,HKw7.out⟩

end Go.Proofs.YteafcepaolofpaaGreatDoor
end
section
/- call, walked. Made by a program (parse.py, walk.py). -/
namespace Go.Proofs.YteafcepaolofpaaGreatDoor
open Go.RowKit

end Go.Proofs.YteafcepaolofpaaGreatDoor
end
