/- rule, walked. Made by a program (parse.py, walk.py). -/
import Derived.Test.YteafcepaolofpaaGreatDoorPrgA
set_option maxRecDepth 100000
set_option maxHeartbeats 4000000
set_option linter.unusedSimpArgs false
set_option linter.unusedVariables false
set_option linter.unusedSectionVars false
namespace Go.Proofs.YteafcepaolofpaaGreatDoor
open Go.RowKit

theorem rule_begin{s:ByteArray}{p:Nat}{st:PSt}{st2 st3:PSt}{b:Node}{kd:Int}{tx:ByteArray}{nm fr te:Nat}(ht:nextF s st.pos true=some ⟨kd,tx,nm,fr,te⟩)(hx:takeF s st ⟨#[66,69,71,73,78]⟩=some (true,st2))(hb:Hands s p st2 st3 b 128)(w:World)(h:PP s p st w):
    Calls Tryz.prog 81 #[.pointer (some ⟨p,0,none⟩)] w fun r w'=>∃v,r= .returned (.tuple #[v,.bool true])∧RuleV w' (fun g=>w.heap.size≤g) ⟨1,0,[],b,(placeOf s fr).1,(placeOf s fr).2⟩ v∧PP s p st3 w'∧Keeps [p] w w':=by
  have g_p:=h.p
  have HP0:=Lib.hid h;have HK0:=Lib.hid (Keeps.refl [p] w);have HT:=Lib.hid ht;have HX:=Lib.hid hx;have HBL:=Lib.hid hb
  clear h ht hx hb
  go_enter Tryz.func81,Tryz.ntmps81
  have l_p:=h_lt HP0.out.row
  go_wp2_with fail
  refine calls_at (fun W=>Keeps [] w W∧W.heap[w.heap.size]? =some (.cells #[.int .i64 0,.int .i64 0,.slice none 0 0,.int .i64 0,.string ⟨#[]⟩,.float .f64 0,.slice none 0 0,.complex .f64 0 0,.complex .f64 0 0] 60 (0,0))) ⟨(by with_reducible repeat (first|exact k0 _ _|refine kA ?_ _|refine kD ?_|refine kS ?_ (by simp)|refine kM ?_ (by simp))),(by simp only [hS,hA,hD,hM,World.size_setCell,World.size_drew,reduceIte,Option.map_some,Obj.put]<;>rfl)⟩ ?_
  rintro w1 ⟨Kw1,cw1_R⟩
  have n_p_R:p≠w.heap.size:=Nat.ne_of_lt l_p
  have n_R_p:w.heap.size≠p:=Nat.ne_of_gt l_p
  have o_R:w.heap.size≤w.heap.size:=Nat.le_refl _
  have g_R:13<w.heap.size:=Nat.lt_trans g_p l_p
  have HKw1:=Lib.hid (HK0.out.trans Kw1 (by simp))
  have HPw1:=Lib.hid (HP0.out.keep Kw1)
  have Rw1_R:=Lib.hid cw1_R
  clear Kw1 cw1_R l_p HK0 HP0
  refine (here_any HPw1.out HT.out).mono ?_
  rintro r e2 ⟨rfl,hk⟩
  have Re2_R:=Lib.hid (hk.at Rw1_R.out (by simp))
  have HKe2:=Lib.hid (HKw1.out.trans hk (by simp))
  have HPe2:=Lib.hid (HPw1.out.keep hk)
  clear hk Rw1_R HKw1 HPw1
  have l_p:=h_lt HPe2.out.row
  have l_p_1:p<e2.heap.size+1:=Nat.lt_add_right 1 l_p
  have l_p_2:p<e2.heap.size+2:=Nat.lt_add_right 2 l_p
  have l_p_3:p<e2.heap.size+3:=Nat.lt_add_right 3 l_p
  have l_R:=h_lt Re2_R.out
  have l_R_1:w.heap.size<e2.heap.size+1:=Nat.lt_add_right 1 l_R
  have l_R_2:w.heap.size<e2.heap.size+2:=Nat.lt_add_right 2 l_R
  have l_R_3:w.heap.size<e2.heap.size+3:=Nat.lt_add_right 3 l_R
  go_wp2_with fail
  refine wp_at (fun W=>Keeps [] e2 W∧W.heap[e2.heap.size]? =some (.cells #[.int .i64 kd,.string tx,.float .f64 nm,.int .i64 fr,.int .i64 te] 109 (0,0))∧W.heap[e2.heap.size+1]? =some (.cells #[.int .i64 0,.int .i64 0,.slice none 0 0,.int .i64 0,.string ⟨#[]⟩,.float .f64 0,.slice none 0 0,.complex .f64 0 0,.complex .f64 (placeOf s fr).1 (placeOf s fr).2] 60 (0,0))∧W.heap[e2.heap.size+2]? =some (.cells #[.string ⟨#[66,69,71,73,78]⟩,.string ⟨#[69,78,68]⟩,.string ⟨#[71,65,80]⟩] 127 (0,0))∧W.heap[e2.heap.size+3]? =some (.cells #[.int .i64 1,.int .i64 2,.int .i64 4] 191 (0,0))) ⟨(by with_reducible repeat (first|exact k0 _ _|refine kA ?_ _|refine kD ?_|refine kS ?_ (by simp)|refine kM ?_ (by simp))),(by simp only [hS,hA,hD,hM,World.size_alloc,World.size_setCell,World.size_drew,size_mset,Nat.add_right_cancel_iff,Nat.left_eq_add,Nat.add_eq_left,Nat.reduceEqDiff,Nat.add_assoc,Nat.reduceAdd,Nat.one_ne_zero,Nat.zero_ne_one,reduceIte,Option.map_some,Obj.put]<;>rfl),(by simp only [hS,hA,hD,hM,World.size_alloc,World.size_setCell,World.size_drew,size_mset,Nat.add_right_cancel_iff,Nat.left_eq_add,Nat.add_eq_left,Nat.reduceEqDiff,Nat.add_assoc,Nat.reduceAdd,Nat.one_ne_zero,Nat.zero_ne_one,reduceIte,Option.map_some,Obj.put]<;>rfl),(by simp only [hS,hA,hD,hM,World.size_alloc,World.size_setCell,World.size_drew,size_mset,Nat.add_right_cancel_iff,Nat.left_eq_add,Nat.add_eq_left,Nat.reduceEqDiff,Nat.add_assoc,Nat.reduceAdd,Nat.one_ne_zero,Nat.zero_ne_one,reduceIte,Option.map_some,Obj.put]<;>rfl),(by simp only [hS,hA,hD,hM,World.size_alloc,World.size_setCell,World.size_drew,size_mset,Nat.add_right_cancel_iff,Nat.left_eq_add,Nat.add_eq_left,Nat.reduceEqDiff,Nat.add_assoc,Nat.reduceAdd,Nat.one_ne_zero,Nat.zero_ne_one,reduceIte,Option.map_some,Obj.put]<;>rfl)⟩ ?_
  rintro w3 ⟨Kw3,cw3_T,cw3_F,cw3_A,cw3_C⟩
  have n_p_T:p≠e2.heap.size:=Nat.ne_of_lt l_p
  have n_T_p:e2.heap.size≠p:=Nat.ne_of_gt l_p
  have n_R_T:w.heap.size≠e2.heap.size:=Nat.ne_of_lt l_R
  have n_T_R:e2.heap.size≠w.heap.size:=Nat.ne_of_gt l_R
  have o_T:w.heap.size≤e2.heap.size:=HKe2.out.size
  have g_T:13<e2.heap.size:=Nat.lt_trans g_p l_p
  have n_p_F:p≠e2.heap.size+1:=Nat.ne_of_lt (Nat.lt_add_right 1 l_p)
  have n_F_p:e2.heap.size+1≠p:=Nat.ne_of_gt (Nat.lt_add_right 1 l_p)
  have n_R_F:w.heap.size≠e2.heap.size+1:=Nat.ne_of_lt (Nat.lt_add_right 1 l_R)
  have n_F_R:e2.heap.size+1≠w.heap.size:=Nat.ne_of_gt (Nat.lt_add_right 1 l_R)
  have n_T_F:e2.heap.size≠e2.heap.size+1:=by simp
  have n_F_T:e2.heap.size+1≠e2.heap.size:=by simp
  have o_F:w.heap.size≤e2.heap.size+1:=Nat.le_trans (HKe2.out.size) (Nat.le_add_right _ 1)
  have g_F:13<e2.heap.size+1:=Nat.lt_trans g_p (Nat.lt_add_right 1 l_p)
  have n_p_A:p≠e2.heap.size+2:=Nat.ne_of_lt (Nat.lt_add_right 2 l_p)
  have n_A_p:e2.heap.size+2≠p:=Nat.ne_of_gt (Nat.lt_add_right 2 l_p)
  have n_R_A:w.heap.size≠e2.heap.size+2:=Nat.ne_of_lt (Nat.lt_add_right 2 l_R)
  have n_A_R:e2.heap.size+2≠w.heap.size:=Nat.ne_of_gt (Nat.lt_add_right 2 l_R)
  have n_T_A:e2.heap.size≠e2.heap.size+2:=by simp
  have n_A_T:e2.heap.size+2≠e2.heap.size:=by simp
  have n_F_A:e2.heap.size+1≠e2.heap.size+2:=by simp
  have n_A_F:e2.heap.size+2≠e2.heap.size+1:=by simp
  have o_A:w.heap.size≤e2.heap.size+2:=Nat.le_trans (HKe2.out.size) (Nat.le_add_right _ 2)
  have g_A:13<e2.heap.size+2:=Nat.lt_trans g_p (Nat.lt_add_right 2 l_p)
  have n_p_C:p≠e2.heap.size+3:=Nat.ne_of_lt (Nat.lt_add_right 3 l_p)
  have n_C_p:e2.heap.size+3≠p:=Nat.ne_of_gt (Nat.lt_add_right 3 l_p)
  have n_R_C:w.heap.size≠e2.heap.size+3:=Nat.ne_of_lt (Nat.lt_add_right 3 l_R)
  have n_C_R:e2.heap.size+3≠w.heap.size:=Nat.ne_of_gt (Nat.lt_add_right 3 l_R)
  have n_T_C:e2.heap.size≠e2.heap.size+3:=by simp
  have n_C_T:e2.heap.size+3≠e2.heap.size:=by simp
  have n_F_C:e2.heap.size+1≠e2.heap.size+3:=by simp
  have n_C_F:e2.heap.size+3≠e2.heap.size+1:=by simp
  have n_A_C:e2.heap.size+2≠e2.heap.size+3:=by simp
  have n_C_A:e2.heap.size+3≠e2.heap.size+2:=by simp
  have o_C:w.heap.size≤e2.heap.size+3:=Nat.le_trans (HKe2.out.size) (Nat.le_add_right _ 3)
  have g_C:13<e2.heap.size+3:=Nat.lt_trans g_p (Nat.lt_add_right 3 l_p)
  have Rw3_R:=Lib.hid (Kw3.at Re2_R.out (by simp))
  have HKw3:=Lib.hid (HKe2.out.trans Kw3 (by simp))
  have HPw3:=Lib.hid (HPe2.out.keep Kw3)
  have Rw3_T:=Lib.hid cw3_T
  have Rw3_F:=Lib.hid cw3_F
  have Rw3_A:=Lib.hid cw3_A
  have Rw3_C:=Lib.hid cw3_C
  clear Kw3 cw3_T cw3_F cw3_A cw3_C l_p l_p_1 l_p_2 l_p_3 l_R l_R_1 l_R_2 l_R_3 Re2_R HKe2 HPe2
  refine wp_loop_rounds 5 ?_
  rw [rounds_succ]
  have l_p:=h_lt HPw3.out.row
  have l_R:=h_lt Rw3_R.out
  have l_T:=h_lt Rw3_T.out
  have l_F:=h_lt Rw3_F.out
  obtain ⟨l_A,xA_0,xA_1,xA_2,yA_0,yA_1,yA_2⟩:=cf3 Rw3_A.out
  have l_C:=h_lt Rw3_C.out
  go_wp2_with fail
  clear l_p l_R l_T l_F l_A xA_0 xA_1 xA_2 yA_0 yA_1 yA_2 l_C
  refine (take_any HPw3.out HX.out).mono ?_
  rintro r e4 ⟨rfl,hp,hk⟩
  have Re4_R:=Lib.hid (hk.at Rw3_R.out (by simp [n_R_p]))
  have Re4_T:=Lib.hid (hk.at Rw3_T.out (by simp [n_T_p]))
  have Re4_F:=Lib.hid (hk.at Rw3_F.out (by simp [n_F_p]))
  have Re4_A:=Lib.hid (hk.at Rw3_A.out (by simp [n_A_p]))
  have Re4_C:=Lib.hid (hk.at Rw3_C.out (by simp [n_C_p]))
  have HKe4:=Lib.hid (HKw3.out.trans hk (by simp))
  have HPne4:=Lib.hid hp
  clear hp
  clear hk Rw3_R Rw3_T Rw3_F Rw3_A Rw3_C HKw3 HPw3
  have l_p:=h_lt HPne4.out.row
  have l_R:=h_lt Re4_R.out
  have l_T:=h_lt Re4_T.out
  obtain ⟨l_F,xF_0,xF_1,xF_2,xF_3,xF_4,xF_5,xF_6,xF_7,xF_8,yF_0,yF_1,yF_2,yF_3,yF_4,yF_5,yF_6,yF_7,yF_8⟩:=cf9 Re4_F.out
  have l_A:=h_lt Re4_A.out
  obtain ⟨l_C,xC_0,xC_1,xC_2,yC_0,yC_1,yC_2⟩:=cf3 Re4_C.out
  go_wp2_with fail
  refine calls_at (fun W=>Keeps [e2.heap.size+1] e4 W∧W.heap[e2.heap.size+1]? =some (.cells #[.int .i64 1,.int .i64 0,.slice none 0 0,.int .i64 0,.string ⟨#[]⟩,.float .f64 0,.slice none 0 0,.complex .f64 0 0,.complex .f64 (placeOf s fr).1 (placeOf s fr).2] 60 (0,0))) ⟨(by with_reducible repeat (first|exact k0 _ _|refine kA ?_ _|refine kD ?_|refine kS ?_ (by simp)|refine kM ?_ (by simp))),(by simp only [hS,hA,hD,hM,reduceIte,Option.map_some,Obj.put,Re4_F.out,Nat.ne_of_lt l_F,Nat.ne_of_gt l_F]<;>rfl)⟩ ?_
  rintro w5 ⟨Kw5,cw5_F⟩
  have Rw5_R:=Lib.hid (Kw5.at Re4_R.out (by simp [n_R_F]))
  have Rw5_T:=Lib.hid (Kw5.at Re4_T.out (by simp [n_T_F]))
  have Rw5_A:=Lib.hid (Kw5.at Re4_A.out (by simp [n_A_F]))
  have Rw5_C:=Lib.hid (Kw5.at Re4_C.out (by simp [n_C_F]))
  have HKw5:=Lib.hid (HKe4.out.trans Kw5 (by simp [o_F]))
  have HPw5:=Lib.hid (HPne4.out.keepN Kw5 (by simp [n_p_F]) (by simp [g_F]))
  have Rw5_F:=Lib.hid cw5_F
  clear Kw5 cw5_F l_p l_R l_T l_F xF_0 xF_1 xF_2 xF_3 xF_4 xF_5 xF_6 xF_7 xF_8 yF_0 yF_1 yF_2 yF_3 yF_4 yF_5 yF_6 yF_7 yF_8 l_A l_C xC_0 xC_1 xC_2 yC_0 yC_1 yC_2 Re4_R Re4_T Re4_A Re4_C HKe4 HPne4 Re4_F
  refine (HBL.out _ HPw5.out).mono ?_
  rintro r e6 ⟨v,rfl,hn,hp,hk⟩
  have Re6_R:=Lib.hid (hk.at Rw5_R.out (by simp [n_R_p]))
  have Re6_T:=Lib.hid (hk.at Rw5_T.out (by simp [n_T_p]))
  have Re6_F:=Lib.hid (hk.at Rw5_F.out (by simp [n_F_p]))
  have Re6_A:=Lib.hid (hk.at Rw5_A.out (by simp [n_A_p]))
  have Re6_C:=Lib.hid (hk.at Rw5_C.out (by simp [n_C_p]))
  have HKe6:=Lib.hid (HKw5.out.trans hk (by simp))
  have HPne6:=Lib.hid hp
  have be6:=Lib.hid hn.seg
  have o_b:w.heap.size≤w5.heap.size:=HKw5.out.size
  have ns_b_p:¬(Seg w5.heap.size e6.heap.size) (p):=fun h=>Nat.not_lt_of_le h.1 (h_lt HPw5.out.row)
  have ns_b_R:¬(Seg w5.heap.size e6.heap.size) (w.heap.size):=fun h=>Nat.not_lt_of_le h.1 (h_lt Rw5_R.out)
  have ns_b_T:¬(Seg w5.heap.size e6.heap.size) (e2.heap.size):=fun h=>Nat.not_lt_of_le h.1 (h_lt Rw5_T.out)
  have ns_b_F:¬(Seg w5.heap.size e6.heap.size) (e2.heap.size+1):=fun h=>Nat.not_lt_of_le h.1 (h_lt Rw5_F.out)
  have ns_b_A:¬(Seg w5.heap.size e6.heap.size) (e2.heap.size+2):=fun h=>Nat.not_lt_of_le h.1 (h_lt Rw5_A.out)
  have ns_b_C:¬(Seg w5.heap.size e6.heap.size) (e2.heap.size+3):=fun h=>Nat.not_lt_of_le h.1 (h_lt Rw5_C.out)
  have up_b:∀g,(Seg w5.heap.size e6.heap.size) g→g<e6.heap.size:=fun _ h=>h.2
  have dn_b:∀g,(Seg w5.heap.size e6.heap.size) g→w.heap.size≤g:=fun _ h=>Nat.le_trans o_b h.1
  obtain ⟨bt,bm,ba,bl,bc,br,bi,rfl,-,-⟩:=hn.shape
  clear hn hp
  clear hk Rw5_R Rw5_T Rw5_F Rw5_A Rw5_C HKw5 HPw5
  have l_p:=h_lt HPne6.out.row
  obtain ⟨l_R,xR_0,xR_1,xR_2,xR_3,xR_4,xR_5,xR_6,xR_7,xR_8,yR_0,yR_1,yR_2,yR_3,yR_4,yR_5,yR_6,yR_7,yR_8⟩:=cf9 Re6_R.out
  have l_T:=h_lt Re6_T.out
  obtain ⟨l_F,xF_0,xF_1,xF_2,xF_3,xF_4,xF_5,xF_6,xF_7,xF_8,yF_0,yF_1,yF_2,yF_3,yF_4,yF_5,yF_6,yF_7,yF_8⟩:=cf9 Re6_F.out
  have l_A:=h_lt Re6_A.out
  have l_C:=h_lt Re6_C.out
  go_wp2_with fail
  refine ret_at (v:= .tuple #[.agg #[.int .i64 1,.int .i64 0,.slice none 0 0,.int .i64 b.kind,.string bt,.float .f64 bm,.slice ba bl bc,.complex .f64 br bi,.complex .f64 (placeOf s fr).1 (placeOf s fr).2],.bool true]) (fun W=>Keeps [e2.heap.size+1,w.heap.size] e6 W∧W.heap[e2.heap.size+1]? =some (.cells #[.int .i64 1,.int .i64 0,.slice none 0 0,.int .i64 b.kind,.string bt,.float .f64 bm,.slice ba bl bc,.complex .f64 br bi,.complex .f64 (placeOf s fr).1 (placeOf s fr).2] 60 (0,0))∧W.heap[w.heap.size]? =some (.cells #[.int .i64 1,.int .i64 0,.slice none 0 0,.int .i64 b.kind,.string bt,.float .f64 bm,.slice ba bl bc,.complex .f64 br bi,.complex .f64 (placeOf s fr).1 (placeOf s fr).2] 60 (0,0))) ⟨(by with_reducible repeat (first|exact k0 _ _|refine kA ?_ _|refine kD ?_|refine kS ?_ (by simp)|refine kM ?_ (by simp))),(by simp only [hS,hA,hD,hM,reduceIte,Option.map_some,Obj.put,Re6_F.out,Re6_R.out,n_F_R,n_R_F,Nat.ne_of_lt l_F,Nat.ne_of_gt l_F,Nat.ne_of_lt l_R,Nat.ne_of_gt l_R]<;>rfl),(by simp only [hS,hA,hD,hM,reduceIte,Option.map_some,Obj.put,Re6_F.out,Re6_R.out,n_F_R,n_R_F,Nat.ne_of_lt l_F,Nat.ne_of_gt l_F,Nat.ne_of_lt l_R,Nat.ne_of_gt l_R]<;>rfl)⟩ (fun w7 hW=> ?_) rfl (fun w7 hW=> ?_)
  · obtain ⟨Kw7,cw7_F,cw7_R⟩:=hW
    have q0:=cell_of_heap cw7_R 0
    have q1:=cell_of_heap cw7_R 1
    have q2:=cell_of_heap cw7_R 2
    have q3:=cell_of_heap cw7_R 3
    have q4:=cell_of_heap cw7_R 4
    have q5:=cell_of_heap cw7_R 5
    have q6:=cell_of_heap cw7_R 6
    have q7:=cell_of_heap cw7_R 7
    have q8:=cell_of_heap cw7_R 8
    simp at q0 q1 q2 q3 q4 q5 q6 q7 q8
    simp [results,Tryz.results81,go_sem,q0,q1,q2,q3,q4,q5,q6,q7,q8]
  · obtain ⟨Kw7,cw7_F,cw7_R⟩:=hW
    have Rw7_T:=Lib.hid (Kw7.at Re6_T.out (by simp [n_T_F,n_T_R]))
    have Rw7_A:=Lib.hid (Kw7.at Re6_A.out (by simp [n_A_F,n_A_R]))
    have Rw7_C:=Lib.hid (Kw7.at Re6_C.out (by simp [n_C_F,n_C_R]))
    have HKw7:=Lib.hid (HKe6.out.trans Kw7 (by simp [o_F,o_R]))
    have HPw7:=Lib.hid (HPne6.out.keepN Kw7 (by simp [n_p_F,n_p_R]) (by simp [g_F,g_R]))
    have bw7:=Lib.hid (be6.out.kp Kw7 (by simp [ns_b_F,ns_b_R]))
    have us_bw7:=Nat.le_trans (Nat.le_refl e6.heap.size) Kw7.size
    have Rw7_F:=Lib.hid cw7_F
    have Rw7_R:=Lib.hid cw7_R
    clear Kw7 cw7_F cw7_R l_p l_R xR_0 xR_1 xR_2 xR_3 xR_4 xR_5 xR_6 xR_7 xR_8 yR_0 yR_1 yR_2 yR_3 yR_4 yR_5 yR_6 yR_7 yR_8 l_T l_F xF_0 xF_1 xF_2 xF_3 xF_4 xF_5 xF_6 xF_7 xF_8 yF_0 yF_1 yF_2 yF_3 yF_4 yF_5 yF_6 yF_7 yF_8 l_A l_C Re6_T Re6_A Re6_C HKe6 HPne6 be6 Re6_F Re6_R
    exact ⟨_,rfl,⟨_,_,_,_,_,_,_,rfl,.nil,bw7.out.to dn_b⟩,HPw7.out,HKw7.out⟩

theorem rule_always{s:ByteArray}{p:Nat}{st:PSt}{st3:PSt}{b:Node}{kd:Int}{tx:ByteArray}{nm fr te:Nat}(ht:nextF s st.pos true=some ⟨kd,tx,nm,fr,te⟩)(hn_BEGIN:notF s st ⟨#[66,69,71,73,78]⟩=some ())(hn_END:notF s st ⟨#[69,78,68]⟩=some ())(hn_GAP:notF s st ⟨#[71,65,80]⟩=some ())(hn_EVERY:notF s st ⟨#[69,86,69,82,89]⟩=some ())(hc:isF s st ⟨#[123]⟩=some true)(hb:Hands s p st st3 b 128)(w:World)(h:PP s p st w):
    Calls Tryz.prog 81 #[.pointer (some ⟨p,0,none⟩)] w fun r w'=>∃v,r= .returned (.tuple #[v,.bool true])∧RuleV w' (fun g=>w.heap.size≤g) ⟨5,0,[],b,(placeOf s fr).1,(placeOf s fr).2⟩ v∧PP s p st3 w'∧Keeps [p] w w':=by
  have g_p:=h.p
  have HP0:=Lib.hid h;have HK0:=Lib.hid (Keeps.refl [p] w);have HT:=Lib.hid ht;have HN_BEGIN:=Lib.hid (take_not hn_BEGIN);have HN_END:=Lib.hid (take_not hn_END);have HN_GAP:=Lib.hid (take_not hn_GAP);have HN_EVERY:=Lib.hid (take_not hn_EVERY);have HB:=Lib.hid hc;have HBL:=Lib.hid hb
  clear h ht hn_BEGIN hn_END hn_GAP hn_EVERY hc hb
  go_enter Tryz.func81,Tryz.ntmps81
  have l_p:=h_lt HP0.out.row
  go_wp2_with fail
  refine calls_at (fun W=>Keeps [] w W∧W.heap[w.heap.size]? =some (.cells #[.int .i64 0,.int .i64 0,.slice none 0 0,.int .i64 0,.string ⟨#[]⟩,.float .f64 0,.slice none 0 0,.complex .f64 0 0,.complex .f64 0 0] 60 (0,0))) ⟨(by with_reducible repeat (first|exact k0 _ _|refine kA ?_ _|refine kD ?_|refine kS ?_ (by simp)|refine kM ?_ (by simp))),(by simp only [hS,hA,hD,hM,World.size_setCell,World.size_drew,reduceIte,Option.map_some,Obj.put]<;>rfl)⟩ ?_
  rintro w1 ⟨Kw1,cw1_R⟩
  have n_p_R:p≠w.heap.size:=Nat.ne_of_lt l_p
  have n_R_p:w.heap.size≠p:=Nat.ne_of_gt l_p
  have o_R:w.heap.size≤w.heap.size:=Nat.le_refl _
  have g_R:13<w.heap.size:=Nat.lt_trans g_p l_p
  have HKw1:=Lib.hid (HK0.out.trans Kw1 (by simp))
  have HPw1:=Lib.hid (HP0.out.keep Kw1)
  have Rw1_R:=Lib.hid cw1_R
  clear Kw1 cw1_R l_p HK0 HP0
  refine (here_any HPw1.out HT.out).mono ?_
  rintro r e2 ⟨rfl,hk⟩
  have Re2_R:=Lib.hid (hk.at Rw1_R.out (by simp))
  have HKe2:=Lib.hid (HKw1.out.trans hk (by simp))
  have HPe2:=Lib.hid (HPw1.out.keep hk)
  clear hk Rw1_R HKw1 HPw1
  have l_p:=h_lt HPe2.out.row
  have l_p_1:p<e2.heap.size+1:=Nat.lt_add_right 1 l_p
  have l_p_2:p<e2.heap.size+2:=Nat.lt_add_right 2 l_p
  have l_p_3:p<e2.heap.size+3:=Nat.lt_add_right 3 l_p
  have l_R:=h_lt Re2_R.out
  have l_R_1:w.heap.size<e2.heap.size+1:=Nat.lt_add_right 1 l_R
  have l_R_2:w.heap.size<e2.heap.size+2:=Nat.lt_add_right 2 l_R
  have l_R_3:w.heap.size<e2.heap.size+3:=Nat.lt_add_right 3 l_R
  go_wp2_with fail
  refine wp_at (fun W=>Keeps [] e2 W∧W.heap[e2.heap.size]? =some (.cells #[.int .i64 kd,.string tx,.float .f64 nm,.int .i64 fr,.int .i64 te] 109 (0,0))∧W.heap[e2.heap.size+1]? =some (.cells #[.int .i64 0,.int .i64 0,.slice none 0 0,.int .i64 0,.string ⟨#[]⟩,.float .f64 0,.slice none 0 0,.complex .f64 0 0,.complex .f64 (placeOf s fr).1 (placeOf s fr).2] 60 (0,0))∧W.heap[e2.heap.size+2]? =some (.cells #[.string ⟨#[66,69,71,73,78]⟩,.string ⟨#[69,78,68]⟩,.string ⟨#[71,65,80]⟩] 127 (0,0))∧W.heap[e2.heap.size+3]? =some (.cells #[.int .i64 1,.int .i64 2,.int .i64 4] 191 (0,0))) ⟨(by with_reducible repeat (first|exact k0 _ _|refine kA ?_ _|refine kD ?_|refine kS ?_ (by simp)|refine kM ?_ (by simp))),(by simp only [hS,hA,hD,hM,World.size_alloc,World.size_setCell,World.size_drew,size_mset,Nat.add_right_cancel_iff,Nat.left_eq_add,Nat.add_eq_left,Nat.reduceEqDiff,Nat.add_assoc,Nat.reduceAdd,Nat.one_ne_zero,Nat.zero_ne_one,reduceIte,Option.map_some,Obj.put]<;>rfl),(by simp only [hS,hA,hD,hM,World.size_alloc,World.size_setCell,World.size_drew,size_mset,Nat.add_right_cancel_iff,Nat.left_eq_add,Nat.add_eq_left,Nat.reduceEqDiff,Nat.add_assoc,Nat.reduceAdd,Nat.one_ne_zero,Nat.zero_ne_one,reduceIte,Option.map_some,Obj.put]<;>rfl),(by simp only [hS,hA,hD,hM,World.size_alloc,World.size_setCell,World.size_drew,size_mset,Nat.add_right_cancel_iff,Nat.left_eq_add,Nat.add_eq_left,Nat.reduceEqDiff,Nat.add_assoc,Nat.reduceAdd,Nat.one_ne_zero,Nat.zero_ne_one,reduceIte,Option.map_some,Obj.put]<;>rfl),(by simp only [hS,hA,hD,hM,World.size_alloc,World.size_setCell,World.size_drew,size_mset,Nat.add_right_cancel_iff,Nat.left_eq_add,Nat.add_eq_left,Nat.reduceEqDiff,Nat.add_assoc,Nat.reduceAdd,Nat.one_ne_zero,Nat.zero_ne_one,reduceIte,Option.map_some,Obj.put]<;>rfl)⟩ ?_
  rintro w3 ⟨Kw3,cw3_T,cw3_F,cw3_A,cw3_C⟩
  have n_p_T:p≠e2.heap.size:=Nat.ne_of_lt l_p
  have n_T_p:e2.heap.size≠p:=Nat.ne_of_gt l_p
  have n_R_T:w.heap.size≠e2.heap.size:=Nat.ne_of_lt l_R
  have n_T_R:e2.heap.size≠w.heap.size:=Nat.ne_of_gt l_R
  have o_T:w.heap.size≤e2.heap.size:=HKe2.out.size
  have g_T:13<e2.heap.size:=Nat.lt_trans g_p l_p
  have n_p_F:p≠e2.heap.size+1:=Nat.ne_of_lt (Nat.lt_add_right 1 l_p)
  have n_F_p:e2.heap.size+1≠p:=Nat.ne_of_gt (Nat.lt_add_right 1 l_p)
  have n_R_F:w.heap.size≠e2.heap.size+1:=Nat.ne_of_lt (Nat.lt_add_right 1 l_R)
  have n_F_R:e2.heap.size+1≠w.heap.size:=Nat.ne_of_gt (Nat.lt_add_right 1 l_R)
  have n_T_F:e2.heap.size≠e2.heap.size+1:=by simp
  have n_F_T:e2.heap.size+1≠e2.heap.size:=by simp
  have o_F:w.heap.size≤e2.heap.size+1:=Nat.le_trans (HKe2.out.size) (Nat.le_add_right _ 1)
  have g_F:13<e2.heap.size+1:=Nat.lt_trans g_p (Nat.lt_add_right 1 l_p)
  have n_p_A:p≠e2.heap.size+2:=Nat.ne_of_lt (Nat.lt_add_right 2 l_p)
  have n_A_p:e2.heap.size+2≠p:=Nat.ne_of_gt (Nat.lt_add_right 2 l_p)
  have n_R_A:w.heap.size≠e2.heap.size+2:=Nat.ne_of_lt (Nat.lt_add_right 2 l_R)
  have n_A_R:e2.heap.size+2≠w.heap.size:=Nat.ne_of_gt (Nat.lt_add_right 2 l_R)
  have n_T_A:e2.heap.size≠e2.heap.size+2:=by simp
  have n_A_T:e2.heap.size+2≠e2.heap.size:=by simp
  have n_F_A:e2.heap.size+1≠e2.heap.size+2:=by simp
  have n_A_F:e2.heap.size+2≠e2.heap.size+1:=by simp
  have o_A:w.heap.size≤e2.heap.size+2:=Nat.le_trans (HKe2.out.size) (Nat.le_add_right _ 2)
  have g_A:13<e2.heap.size+2:=Nat.lt_trans g_p (Nat.lt_add_right 2 l_p)
  have n_p_C:p≠e2.heap.size+3:=Nat.ne_of_lt (Nat.lt_add_right 3 l_p)
  have n_C_p:e2.heap.size+3≠p:=Nat.ne_of_gt (Nat.lt_add_right 3 l_p)
  have n_R_C:w.heap.size≠e2.heap.size+3:=Nat.ne_of_lt (Nat.lt_add_right 3 l_R)
  have n_C_R:e2.heap.size+3≠w.heap.size:=Nat.ne_of_gt (Nat.lt_add_right 3 l_R)
  have n_T_C:e2.heap.size≠e2.heap.size+3:=by simp
  have n_C_T:e2.heap.size+3≠e2.heap.size:=by simp
  have n_F_C:e2.heap.size+1≠e2.heap.size+3:=by simp
  have n_C_F:e2.heap.size+3≠e2.heap.size+1:=by simp
  have n_A_C:e2.heap.size+2≠e2.heap.size+3:=by simp
  have n_C_A:e2.heap.size+3≠e2.heap.size+2:=by simp
  have o_C:w.heap.size≤e2.heap.size+3:=Nat.le_trans (HKe2.out.size) (Nat.le_add_right _ 3)
  have g_C:13<e2.heap.size+3:=Nat.lt_trans g_p (Nat.lt_add_right 3 l_p)
  have Rw3_R:=Lib.hid (Kw3.at Re2_R.out (by simp))
  have HKw3:=Lib.hid (HKe2.out.trans Kw3 (by simp))
  have HPw3:=Lib.hid (HPe2.out.keep Kw3)
  have Rw3_T:=Lib.hid cw3_T
  have Rw3_F:=Lib.hid cw3_F
  have Rw3_A:=Lib.hid cw3_A
  have Rw3_C:=Lib.hid cw3_C
  clear Kw3 cw3_T cw3_F cw3_A cw3_C l_p l_p_1 l_p_2 l_p_3 l_R l_R_1 l_R_2 l_R_3 Re2_R HKe2 HPe2
  refine wp_loop_rounds 5 ?_
  rw [rounds_succ]
  have l_p:=h_lt HPw3.out.row
  have l_R:=h_lt Rw3_R.out
  have l_T:=h_lt Rw3_T.out
  have l_F:=h_lt Rw3_F.out
  obtain ⟨l_A,xA_0,xA_1,xA_2,yA_0,yA_1,yA_2⟩:=cf3 Rw3_A.out
  have l_C:=h_lt Rw3_C.out
  go_wp2_with fail
  clear l_p l_R l_T l_F l_A xA_0 xA_1 xA_2 yA_0 yA_1 yA_2 l_C
  refine (take_any HPw3.out HN_BEGIN.out).mono ?_
  rintro r e4 ⟨rfl,hp,hk⟩
  have Re4_R:=Lib.hid (hk.at Rw3_R.out (by simp [n_R_p]))
  have Re4_T:=Lib.hid (hk.at Rw3_T.out (by simp [n_T_p]))
  have Re4_F:=Lib.hid (hk.at Rw3_F.out (by simp [n_F_p]))
  have Re4_A:=Lib.hid (hk.at Rw3_A.out (by simp [n_A_p]))
  have Re4_C:=Lib.hid (hk.at Rw3_C.out (by simp [n_C_p]))
  have HKe4:=Lib.hid (HKw3.out.trans hk (by simp))
  have HPne4:=Lib.hid hp
  clear hp
  clear hk Rw3_R Rw3_T Rw3_F Rw3_A Rw3_C HKw3 HPw3
  have l_p:=h_lt HPne4.out.row
  have l_R:=h_lt Re4_R.out
  have l_T:=h_lt Re4_T.out
  have l_F:=h_lt Re4_F.out
  have l_A:=h_lt Re4_A.out
  have l_C:=h_lt Re4_C.out
  go_wp2_with fail
  clear l_p l_R l_T l_F l_A l_C
  rw [rounds_succ]
  have l_p:=h_lt HPne4.out.row
  have l_R:=h_lt Re4_R.out
  have l_T:=h_lt Re4_T.out
  have l_F:=h_lt Re4_F.out
  obtain ⟨l_A,xA_0,xA_1,xA_2,yA_0,yA_1,yA_2⟩:=cf3 Re4_A.out
  have l_C:=h_lt Re4_C.out
  go_wp2_with fail
  clear l_p l_R l_T l_F l_A xA_0 xA_1 xA_2 yA_0 yA_1 yA_2 l_C
  refine (take_any HPne4.out HN_END.out).mono ?_
  rintro r e5 ⟨rfl,hp,hk⟩
  have Re5_R:=Lib.hid (hk.at Re4_R.out (by simp [n_R_p]))
  have Re5_T:=Lib.hid (hk.at Re4_T.out (by simp [n_T_p]))
  have Re5_F:=Lib.hid (hk.at Re4_F.out (by simp [n_F_p]))
  have Re5_A:=Lib.hid (hk.at Re4_A.out (by simp [n_A_p]))
  have Re5_C:=Lib.hid (hk.at Re4_C.out (by simp [n_C_p]))
  have HKe5:=Lib.hid (HKe4.out.trans hk (by simp))
  have HPne5:=Lib.hid hp
  clear hp
  clear hk Re4_R Re4_T Re4_F Re4_A Re4_C HKe4 HPne4
  have l_p:=h_lt HPne5.out.row
  have l_R:=h_lt Re5_R.out
  have l_T:=h_lt Re5_T.out
  have l_F:=h_lt Re5_F.out
  have l_A:=h_lt Re5_A.out
  have l_C:=h_lt Re5_C.out
  go_wp2_with fail
  clear l_p l_R l_T l_F l_A l_C
  rw [rounds_succ]
  have l_p:=h_lt HPne5.out.row
  have l_R:=h_lt Re5_R.out
  have l_T:=h_lt Re5_T.out
  have l_F:=h_lt Re5_F.out
  obtain ⟨l_A,xA_0,xA_1,xA_2,yA_0,yA_1,yA_2⟩:=cf3 Re5_A.out
  have l_C:=h_lt Re5_C.out
  go_wp2_with fail
  clear l_p l_R l_T l_F l_A xA_0 xA_1 xA_2 yA_0 yA_1 yA_2 l_C
  refine (take_any HPne5.out HN_GAP.out).mono ?_
  rintro r e6 ⟨rfl,hp,hk⟩
  have Re6_R:=Lib.hid (hk.at Re5_R.out (by simp [n_R_p]))
  have Re6_T:=Lib.hid (hk.at Re5_T.out (by simp [n_T_p]))
  have Re6_F:=Lib.hid (hk.at Re5_F.out (by simp [n_F_p]))
  have Re6_A:=Lib.hid (hk.at Re5_A.out (by simp [n_A_p]))
  have Re6_C:=Lib.hid (hk.at Re5_C.out (by simp [n_C_p]))
  have HKe6:=Lib.hid (HKe5.out.trans hk (by simp))
  have HPne6:=Lib.hid hp
  clear hp
  clear hk Re5_R Re5_T Re5_F Re5_A Re5_C HKe5 HPne5
  have l_p:=h_lt HPne6.out.row
  have l_R:=h_lt Re6_R.out
  have l_T:=h_lt Re6_T.out
  have l_F:=h_lt Re6_F.out
  have l_A:=h_lt Re6_A.out
  have l_C:=h_lt Re6_C.out
  go_wp2_with fail
  clear l_p l_R l_T l_F l_A l_C
  rw [rounds_succ]
  have l_p:=h_lt HPne6.out.row
  have l_R:=h_lt Re6_R.out
  have l_T:=h_lt Re6_T.out
  have l_F:=h_lt Re6_F.out
  have l_A:=h_lt Re6_A.out
  have l_C:=h_lt Re6_C.out
  go_wp2_with fail
  clear l_p l_R l_T l_F l_A l_C
  refine (take_any HPne6.out HN_EVERY.out).mono ?_
  rintro r e7 ⟨rfl,hp,hk⟩
  have Re7_R:=Lib.hid (hk.at Re6_R.out (by simp [n_R_p]))
  have Re7_T:=Lib.hid (hk.at Re6_T.out (by simp [n_T_p]))
  have Re7_F:=Lib.hid (hk.at Re6_F.out (by simp [n_F_p]))
  have Re7_A:=Lib.hid (hk.at Re6_A.out (by simp [n_A_p]))
  have Re7_C:=Lib.hid (hk.at Re6_C.out (by simp [n_C_p]))
  have HKe7:=Lib.hid (HKe6.out.trans hk (by simp))
  have HPne7:=Lib.hid hp
  clear hp
  clear hk Re6_R Re6_T Re6_F Re6_A Re6_C HKe6 HPne6
  have l_p:=h_lt HPne7.out.row
  have l_R:=h_lt Re7_R.out
  have l_T:=h_lt Re7_T.out
  obtain ⟨l_F,xF_0,xF_1,xF_2,xF_3,xF_4,xF_5,xF_6,xF_7,xF_8,yF_0,yF_1,yF_2,yF_3,yF_4,yF_5,yF_6,yF_7,yF_8⟩:=cf9 Re7_F.out
  have l_A:=h_lt Re7_A.out
  have l_C:=h_lt Re7_C.out
  go_wp2_with fail
  refine calls_at (fun W=>Keeps [e2.heap.size+1] e7 W∧W.heap[e2.heap.size+1]? =some (.cells #[.int .i64 5,.int .i64 0,.slice none 0 0,.int .i64 0,.string ⟨#[]⟩,.float .f64 0,.slice none 0 0,.complex .f64 0 0,.complex .f64 (placeOf s fr).1 (placeOf s fr).2] 60 (0,0))) ⟨(by with_reducible repeat (first|exact k0 _ _|refine kA ?_ _|refine kD ?_|refine kS ?_ (by simp)|refine kM ?_ (by simp))),(by simp only [hS,hA,hD,hM,reduceIte,Option.map_some,Obj.put,Re7_F.out,Nat.ne_of_lt l_F,Nat.ne_of_gt l_F]<;>rfl)⟩ ?_
  rintro w8 ⟨Kw8,cw8_F⟩
  have Rw8_R:=Lib.hid (Kw8.at Re7_R.out (by simp [n_R_F]))
  have Rw8_T:=Lib.hid (Kw8.at Re7_T.out (by simp [n_T_F]))
  have Rw8_A:=Lib.hid (Kw8.at Re7_A.out (by simp [n_A_F]))
  have Rw8_C:=Lib.hid (Kw8.at Re7_C.out (by simp [n_C_F]))
  have HKw8:=Lib.hid (HKe7.out.trans Kw8 (by simp [o_F]))
  have HPw8:=Lib.hid (HPne7.out.keepN Kw8 (by simp [n_p_F]) (by simp [g_F]))
  have Rw8_F:=Lib.hid cw8_F
  clear Kw8 cw8_F l_p l_R l_T l_F xF_0 xF_1 xF_2 xF_3 xF_4 xF_5 xF_6 xF_7 xF_8 yF_0 yF_1 yF_2 yF_3 yF_4 yF_5 yF_6 yF_7 yF_8 l_A l_C Re7_R Re7_T Re7_A Re7_C HKe7 HPne7 Re7_F
  refine (isF_any HPw8.out HB.out).mono ?_
  rintro r e9 ⟨rfl,hk⟩
  have Re9_R:=Lib.hid (hk.at Rw8_R.out (by simp))
  have Re9_T:=Lib.hid (hk.at Rw8_T.out (by simp))
  have Re9_F:=Lib.hid (hk.at Rw8_F.out (by simp))
  have Re9_A:=Lib.hid (hk.at Rw8_A.out (by simp))
  have Re9_C:=Lib.hid (hk.at Rw8_C.out (by simp))
  have HKe9:=Lib.hid (HKw8.out.trans hk (by simp))
  have HPe9:=Lib.hid (HPw8.out.keep hk)
  clear hk Rw8_R Rw8_T Rw8_F Rw8_A Rw8_C HKw8 HPw8
  have l_p:=h_lt HPe9.out.row
  have l_R:=h_lt Re9_R.out
  have l_T:=h_lt Re9_T.out
  have l_F:=h_lt Re9_F.out
  have l_A:=h_lt Re9_A.out
  have l_C:=h_lt Re9_C.out
  go_wp2_with fail
  clear l_p l_R l_T l_F l_A l_C
  refine (HBL.out _ HPe9.out).mono ?_
  rintro r e10 ⟨v,rfl,hn,hp,hk⟩
  have Re10_R:=Lib.hid (hk.at Re9_R.out (by simp [n_R_p]))
  have Re10_T:=Lib.hid (hk.at Re9_T.out (by simp [n_T_p]))
  have Re10_F:=Lib.hid (hk.at Re9_F.out (by simp [n_F_p]))
  have Re10_A:=Lib.hid (hk.at Re9_A.out (by simp [n_A_p]))
  have Re10_C:=Lib.hid (hk.at Re9_C.out (by simp [n_C_p]))
  have HKe10:=Lib.hid (HKe9.out.trans hk (by simp))
  have HPne10:=Lib.hid hp
  have be10:=Lib.hid hn.seg
  have o_b:w.heap.size≤e9.heap.size:=HKe9.out.size
  have ns_b_p:¬(Seg e9.heap.size e10.heap.size) (p):=fun h=>Nat.not_lt_of_le h.1 (h_lt HPe9.out.row)
  have ns_b_R:¬(Seg e9.heap.size e10.heap.size) (w.heap.size):=fun h=>Nat.not_lt_of_le h.1 (h_lt Re9_R.out)
  have ns_b_T:¬(Seg e9.heap.size e10.heap.size) (e2.heap.size):=fun h=>Nat.not_lt_of_le h.1 (h_lt Re9_T.out)
  have ns_b_F:¬(Seg e9.heap.size e10.heap.size) (e2.heap.size+1):=fun h=>Nat.not_lt_of_le h.1 (h_lt Re9_F.out)
  have ns_b_A:¬(Seg e9.heap.size e10.heap.size) (e2.heap.size+2):=fun h=>Nat.not_lt_of_le h.1 (h_lt Re9_A.out)
  have ns_b_C:¬(Seg e9.heap.size e10.heap.size) (e2.heap.size+3):=fun h=>Nat.not_lt_of_le h.1 (h_lt Re9_C.out)
  have up_b:∀g,(Seg e9.heap.size e10.heap.size) g→g<e10.heap.size:=fun _ h=>h.2
  have dn_b:∀g,(Seg e9.heap.size e10.heap.size) g→w.heap.size≤g:=fun _ h=>Nat.le_trans o_b h.1
  obtain ⟨bt,bm,ba,bl,bc,br,bi,rfl,-,-⟩:=hn.shape
  clear hn hp
  clear hk Re9_R Re9_T Re9_F Re9_A Re9_C HKe9 HPe9
  have l_p:=h_lt HPne10.out.row
  obtain ⟨l_R,xR_0,xR_1,xR_2,xR_3,xR_4,xR_5,xR_6,xR_7,xR_8,yR_0,yR_1,yR_2,yR_3,yR_4,yR_5,yR_6,yR_7,yR_8⟩:=cf9 Re10_R.out
  have l_T:=h_lt Re10_T.out
  obtain ⟨l_F,xF_0,xF_1,xF_2,xF_3,xF_4,xF_5,xF_6,xF_7,xF_8,yF_0,yF_1,yF_2,yF_3,yF_4,yF_5,yF_6,yF_7,yF_8⟩:=cf9 Re10_F.out
  have l_A:=h_lt Re10_A.out
  have l_C:=h_lt Re10_C.out
  go_wp2_with fail
  refine ret_at (v:= .tuple #[.agg #[.int .i64 5,.int .i64 0,.slice none 0 0,.int .i64 b.kind,.string bt,.float .f64 bm,.slice ba bl bc,.complex .f64 br bi,.complex .f64 (placeOf s fr).1 (placeOf s fr).2],.bool true]) (fun W=>Keeps [e2.heap.size+1,w.heap.size] e10 W∧W.heap[e2.heap.size+1]? =some (.cells #[.int .i64 5,.int .i64 0,.slice none 0 0,.int .i64 b.kind,.string bt,.float .f64 bm,.slice ba bl bc,.complex .f64 br bi,.complex .f64 (placeOf s fr).1 (placeOf s fr).2] 60 (0,0))∧W.heap[w.heap.size]? =some (.cells #[.int .i64 5,.int .i64 0,.slice none 0 0,.int .i64 b.kind,.string bt,.float .f64 bm,.slice ba bl bc,.complex .f64 br bi,.complex .f64 (placeOf s fr).1 (placeOf s fr).2] 60 (0,0))) ⟨(by with_reducible repeat (first|exact k0 _ _|refine kA ?_ _|refine kD ?_|refine kS ?_ (by simp)|refine kM ?_ (by simp))),(by simp only [hS,hA,hD,hM,reduceIte,Option.map_some,Obj.put,Re10_F.out,Re10_R.out,n_F_R,n_R_F,Nat.ne_of_lt l_F,Nat.ne_of_gt l_F,Nat.ne_of_lt l_R,Nat.ne_of_gt l_R]<;>rfl),(by simp only [hS,hA,hD,hM,reduceIte,Option.map_some,Obj.put,Re10_F.out,Re10_R.out,n_F_R,n_R_F,Nat.ne_of_lt l_F,Nat.ne_of_gt l_F,Nat.ne_of_lt l_R,Nat.ne_of_gt l_R]<;>rfl)⟩ (fun w11 hW=> ?_) rfl (fun w11 hW=> ?_)
  · obtain ⟨Kw11,cw11_F,cw11_R⟩:=hW
    have q0:=cell_of_heap cw11_R 0
    have q1:=cell_of_heap cw11_R 1
    have q2:=cell_of_heap cw11_R 2
    have q3:=cell_of_heap cw11_R 3
    have q4:=cell_of_heap cw11_R 4
    have q5:=cell_of_heap cw11_R 5
    have q6:=cell_of_heap cw11_R 6
    have q7:=cell_of_heap cw11_R 7
    have q8:=cell_of_heap cw11_R 8
    simp at q0 q1 q2 q3 q4 q5 q6 q7 q8
    simp [results,Tryz.results81,go_sem,q0,q1,q2,q3,q4,q5,q6,q7,q8]
  · obtain ⟨Kw11,cw11_F,cw11_R⟩:=hW
    have Rw11_T:=Lib.hid (Kw11.at Re10_T.out (by simp [n_T_F,n_T_R]))
    have Rw11_A:=Lib.hid (Kw11.at Re10_A.out (by simp [n_A_F,n_A_R]))
    have Rw11_C:=Lib.hid (Kw11.at Re10_C.out (by simp [n_C_F,n_C_R]))
    have HKw11:=Lib.hid (HKe10.out.trans Kw11 (by simp [o_F,o_R]))
    have HPw11:=Lib.hid (HPne10.out.keepN Kw11 (by simp [n_p_F,n_p_R]) (by simp [g_F,g_R]))
    have bw11:=Lib.hid (be10.out.kp Kw11 (by simp [ns_b_F,ns_b_R]))
    have us_bw11:=Nat.le_trans (Nat.le_refl e10.heap.size) Kw11.size
    have Rw11_F:=Lib.hid cw11_F
    have Rw11_R:=Lib.hid cw11_R
    clear Kw11 cw11_F cw11_R l_p l_R xR_0 xR_1 xR_2 xR_3 xR_4 xR_5 xR_6 xR_7 xR_8 yR_0 yR_1 yR_2 yR_3 yR_4 yR_5 yR_6 yR_7 yR_8 l_T l_F xF_0 xF_1 xF_2 xF_3 xF_4 xF_5 xF_6 xF_7 xF_8 yF_0 yF_1 yF_2 yF_3 yF_4 yF_5 yF_6 yF_7 yF_8 l_A l_C Re10_T Re10_A Re10_C HKe10 HPne10 be10 Re10_F Re10_R
    exact ⟨_,rfl,⟨_,_,_,_,_,_,_,rfl,.nil,bw11.out.to dn_b⟩,HPw11.out,HKw11.out⟩
end Go.Proofs.YteafcepaolofpaaGreatDoor
