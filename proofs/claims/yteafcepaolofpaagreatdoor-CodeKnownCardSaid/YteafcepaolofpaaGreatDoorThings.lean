/- Texts of this claim, joined: LevelsR, KtD, Kps, Things. -/
import Derived.Test.YteafcepaolofpaaGreatDoorLevelsQ
import Derived.Test.YteafcepaolofpaaGreatDoorLevelsF
import Derived.Laws.StructEq
import Derived.WideKeyRuns
set_option maxRecDepth 100000
set_option maxHeartbeats 4000000
set_option linter.unusedSimpArgs false
set_option linter.unusedVariables false
set_option linter.unusedSectionVars false
section
/- block, walked. Made by a program (parse.py, walk.py). -/
namespace Go.Proofs.YteafcepaolofpaaGreatDoor
open Go.RowKit

/-- The kids so far of a node that lies in block B, its other cells known. -/
def KidsI(s:ByteArray)(p R B:Nat)(w:World)(c0 c1 c2 c4:Value)(l:List Node)(st:PSt)(W:World):Prop:=
  ∃ (v:Value) (T:Nat→Prop) (U:Nat),OwnL NodeE 58 5 W w.heap.size T l v∧(∀x,T x→x<U)∧U≤W.heap.size∧(∀x,T x→w.heap.size≤x)∧¬T p∧¬T R∧¬T B∧PP s p st W∧Keeps [p] w W∧
    W.heap[R]? =some (.cells #[.int .i64 0,.string ⟨#[]⟩,.float .f64 0,.slice none 0 0,.complex .f64 0 0] 58 (0,0))∧W.heap[B]? =some (.cells #[c0,c1,c2,v,c4] 58 (0,0))
def BlockI(s:ByteArray)(p R B:Nat)(w:World)(c0 c1 c2 c4:Value)(rec:Rec)(l':List Node)(st':PSt)(g:Nat)(W:World):Prop:=
  ∃(l:List Node) (st:PSt),stmtsF s rec g l st=some (l',st')∧l.length+g≤60∧KidsI s p R B w c0 c1 c2 c4 l st W

/-- append of a node, as a step of a region that draws. -/
theorem step_app_node{ops:Array Oper}{o:Oper}{a:Act}{w:World}{K:Act→World→Prop}{Q:Exit→Act→World→Prop}{Z:Prop}(hgd:o.guard=none)(s y:Operand)
    (ho:o.op= .call {callee:= .builtin .append,args:= #[s,y],argTypes:= #[56,56]})
    {b G cap:Nat} {T S:Nat→Prop} {l:List Node} {x:Node} {v c0 c1 c2 c3 c4:Value} (hs:a.eval s=v) (hy:a.eval y= .slice (some ⟨G,0,none⟩) 1 cap) (hO:OwnL NodeE 58 5 w b T l v)
    (hG:w.heap[G]? =some (.cells #[c0,c1,c2,c3,c4] 58 (0,0))) (hm:NodeR w S x (.agg #[c0,c1,c2,c3,c4])) (hd:∀g,S g→¬T g) (hS:∀g,S g→g<w.heap.size) (hT:∀g,T g→g<w.heap.size) (hb:b≤w.heap.size) (hl:l.length≤400000)
    (h:∀v' w' fl,(∀x∈fl,T x)→Keeps fl w w'→OwnL NodeE 58 5 w' b (fun g=>T g∨S g∨(w.heap.size≤g∧g<w'.heap.size)) (l++ [x]) v'→K (a.put o.dst v') w'):
    if Region.wanted o (yielded ops a.tmps)=true then Oper.wp Tryz.prog o a w K Q else Z:=by
  obtain ⟨i,hi,hz,hsz,hby⟩:=info50
  obtain ⟨xs,hown,ht,hx⟩:=hO
  refine step_append_lies w hgd s y 56 ho b 58 i _ 5 72 Tryz.underlying56 hi hz hsz hby rfl (by decide) v l.length xs hs hown ⟨G,0,none⟩ 1 cap [c0,c1,c2,c3,c4] hy rfl (fun j u hj=> ?_) (nodeL.one (S:=S) (a:=x) ⟨rfl,hm⟩) (by omega) (by simp [maxLen];omega) (by omega) hb _ rfl fun g cp w1 h1 h2 h3 h4=> ?_
  · have:=cell_of_heap hG j
    have e1:(⟨G,0,none⟩:Addr).add j=⟨G,j,none⟩:=by simp [Addr.add];intro h;rw [h]
    rw [e1,this];simpa using hj
  · obtain ⟨q1,fl,q2,q3⟩:=own_grown nodeL hown ht hx (c:= [c0,c1,c2,c3,c4]) ⟨rfl,hm⟩ hd hS hT h1 h2 h3 h4
    exact h _ _ fl q2 q3 q1

theorem block_lv{s : ByteArray}{p:Nat}{st st1 st2 st3 st4:PSt}{l':List Node}{rec:Rec}{kd:Int}{tx:ByteArray}{nm fr te:Nat}(hrec:∀st st' n,rec .stmt st=some (n,st')→Hands s p st st' n 153)
    (ht:nextF s st.pos false=some ⟨kd,tx,nm,fr,te⟩) (hw:wantF s st ⟨#[123]⟩=some st1) (hl:linesA s st1 ⟨#[59]⟩=some st2) (hx:stmtsF s rec 50 [] st2=some (l',st3)) (hv:wantF s st3 ⟨#[125]⟩=some st4):Hands s p st st4 (.mk 30 ⟨#[]⟩ 0 l' (placeOf s fr).1 (placeOf s fr).2) 128:=by
  intro w h
  have g_p:=h.p
  have g_0:13<w.heap.size:=Nat.lt_trans g_p (h_lt h.row)
  have HP0:=Lib.hid h;have HK0:=Lib.hid (Keeps.refl [p] w);have HT:=Lib.hid ht;have HW:=Lib.hid hw;have HL:Hid (linesF s ⟨#[59]⟩ (s.size+2) st1=some st2):=Lib.hid hl;have HRec:=Lib.hid hrec;have HG:=Lib.hid hx;have HV:=Lib.hid hv
  clear h hrec ht hw hl hx hv
  go_enter Tryz.func128,Tryz.ntmps128
  have l_p:=h_lt HP0.out.row
  go_wp2_with fail
  refine calls_at (fun W=>Keeps [] w W∧W.heap[w.heap.size]? =some (.cells #[.int .i64 0,.string ⟨#[]⟩,.float .f64 0,.slice none 0 0,.complex .f64 0 0] 58 (0,0))) ⟨(by with_reducible repeat (first|exact k0 _ _|refine kA ?_ _|refine kD ?_|refine kS ?_ (by simp)|refine kM ?_ (by simp))),(by simp only [hS,hA,hD,hM,World.size_setCell,World.size_drew,reduceIte,Option.map_some,Obj.put]<;>rfl)⟩ ?_
  rintro w1 ⟨Kw1,cw1_R⟩
  have n_p_R:p≠w.heap.size:=Nat.ne_of_lt l_p
  have n_R_p:w.heap.size≠p:=Nat.ne_of_gt l_p
  have o_R:w.heap.size≤w.heap.size:=Nat.le_refl _
  have g_R:13<w.heap.size:=Nat.lt_trans g_p l_p
  have HKw1:=Lib.hid (HK0.out.trans Kw1 (by simp))
  have HPw1:=Lib.hid (HP0.out.keep Kw1)
  have Rw1_R:=Lib.hid cw1_R
  clear Kw1 cw1_R l_p HK0 HP0
  refine (here_any HPw1.out HT.out).mono ?_
  rintro r e2 ⟨rfl,hk⟩
  have Re2_R:=Lib.hid (hk.at Rw1_R.out (by simp))
  have HKe2:=Lib.hid (HKw1.out.trans hk (by simp))
  have HPe2:=Lib.hid (HPw1.out.keep hk)
  clear hk Rw1_R HKw1 HPw1
  have l_p:=h_lt HPe2.out.row
  have l_p_1:p<e2.heap.size+1:=Nat.lt_add_right 1 l_p
  have l_R:=h_lt Re2_R.out
  have l_R_1:w.heap.size<e2.heap.size+1:=Nat.lt_add_right 1 l_R
  go_wp2_with fail
  refine calls_at (fun W=>Keeps [] e2 W∧W.heap[e2.heap.size]? =some (.cells #[.int .i64 kd,.string tx,.float .f64 nm,.int .i64 fr,.int .i64 te] 109 (0,0))∧W.heap[e2.heap.size+1]? =some (.cells #[.int .i64 30,.string ⟨#[]⟩,.float .f64 0,.slice none 0 0,.complex .f64 (placeOf s fr).1 (placeOf s fr).2] 58 (0,0))) ⟨(by with_reducible repeat (first|exact k0 _ _|refine kA ?_ _|refine kD ?_|refine kS ?_ (by simp)|refine kM ?_ (by simp))),(by simp only [hS,hA,hD,hM,World.size_alloc,World.size_setCell,World.size_drew,size_mset,Nat.add_right_cancel_iff,Nat.left_eq_add,Nat.add_eq_left,Nat.reduceEqDiff,Nat.add_assoc,Nat.reduceAdd,Nat.one_ne_zero,Nat.zero_ne_one,reduceIte,Option.map_some,Obj.put]<;>rfl),(by simp only [hS,hA,hD,hM,World.size_alloc,World.size_setCell,World.size_drew,size_mset,Nat.add_right_cancel_iff,Nat.left_eq_add,Nat.add_eq_left,Nat.reduceEqDiff,Nat.add_assoc,Nat.reduceAdd,Nat.one_ne_zero,Nat.zero_ne_one,reduceIte,Option.map_some,Obj.put]<;>rfl)⟩ ?_
  rintro w3 ⟨Kw3,cw3_T,cw3_B⟩
  have n_p_T:p≠e2.heap.size:=Nat.ne_of_lt l_p
  have n_T_p:e2.heap.size≠p:=Nat.ne_of_gt l_p
  have n_R_T:w.heap.size≠e2.heap.size:=Nat.ne_of_lt l_R
  have n_T_R:e2.heap.size≠w.heap.size:=Nat.ne_of_gt l_R
  have o_T:w.heap.size≤e2.heap.size:=HKe2.out.size
  have g_T:13<e2.heap.size:=Nat.lt_trans g_p l_p
  have n_p_B:p≠e2.heap.size+1:=Nat.ne_of_lt (Nat.lt_add_right 1 l_p)
  have n_B_p:e2.heap.size+1≠p:=Nat.ne_of_gt (Nat.lt_add_right 1 l_p)
  have n_R_B:w.heap.size≠e2.heap.size+1:=Nat.ne_of_lt (Nat.lt_add_right 1 l_R)
  have n_B_R:e2.heap.size+1≠w.heap.size:=Nat.ne_of_gt (Nat.lt_add_right 1 l_R)
  have n_T_B:e2.heap.size≠e2.heap.size+1:=by simp
  have n_B_T:e2.heap.size+1≠e2.heap.size:=by simp
  have o_B:w.heap.size≤e2.heap.size+1:=Nat.le_trans (HKe2.out.size) (Nat.le_add_right _ 1)
  have g_B:13<e2.heap.size+1:=Nat.lt_trans g_p (Nat.lt_add_right 1 l_p)
  have Rw3_R:=Lib.hid (Kw3.at Re2_R.out (by simp))
  have HKw3:=Lib.hid (HKe2.out.trans Kw3 (by simp))
  have HPw3:=Lib.hid (HPe2.out.keep Kw3)
  have Rw3_T:=Lib.hid cw3_T
  have Rw3_B:=Lib.hid cw3_B
  clear Kw3 cw3_T cw3_B l_p l_p_1 l_R l_R_1 Re2_R HKe2 HPe2
  refine (want_any HPw3.out HW.out).mono ?_
  rintro r e4 ⟨rfl,hp,hk⟩
  have Re4_R:=Lib.hid (hk.at Rw3_R.out (by simp [n_R_p]))
  have Re4_T:=Lib.hid (hk.at Rw3_T.out (by simp [n_T_p]))
  have Re4_B:=Lib.hid (hk.at Rw3_B.out (by simp [n_B_p]))
  have HKe4:=Lib.hid (HKw3.out.trans hk (by simp))
  have HPne4:=Lib.hid hp
  clear hp
  clear hk Rw3_R Rw3_T Rw3_B HKw3 HPw3
  have l_p:=h_lt HPne4.out.row
  have l_R:=h_lt Re4_R.out
  have l_T:=h_lt Re4_T.out
  have l_B:=h_lt Re4_B.out
  go_wp2_with fail
  clear l_p l_R l_T l_B
  refine (lines_any HPne4.out HL.out).mono ?_
  rintro r e5 ⟨rfl,hp,hk⟩
  have Re5_R:=Lib.hid (hk.at Re4_R.out (by simp [n_R_p]))
  have Re5_T:=Lib.hid (hk.at Re4_T.out (by simp [n_T_p]))
  have Re5_B:=Lib.hid (hk.at Re4_B.out (by simp [n_B_p]))
  have HKe5:=Lib.hid (HKe4.out.trans hk (by simp))
  have HPne5:=Lib.hid hp
  clear hp
  clear hk Re4_R Re4_T Re4_B HKe4 HPne4
  have l_p:=h_lt HPne5.out.row
  have l_R:=h_lt Re5_R.out
  have l_T:=h_lt Re5_T.out
  have l_B:=h_lt Re5_B.out
  go_wp2_with fail
  clear l_p l_R l_T l_B
  go_loopg [] 50 (fun g wr=>BlockI s p w.heap.size (e2.heap.size+1) w (.int .i64 30) (.string ⟨#[]⟩) (.float .f64 0) (.complex .f64 (placeOf s fr).1 (placeOf s fr).2) rec l' st3 g wr)
  case atStart=>exact ⟨[],st2,HG.out,by simp,_,fun _=>False,0,OwnL.nil,fun _ h=>h.elim,Nat.zero_le _,fun _ h=>h.elim,fun h=>h,fun h=>h,fun h=>h,HPne5.out,HKe5.out,Re5_R.out,Re5_B.out⟩
  clear HG
  case round=>
    obtain ⟨l,st1,hG,hlen,v,T,U,hl,up_l,us_l,dn_l,ns_l_p,ns_l_R,ns_l_B,hp,hk,hR,hB⟩:=hrel
    obtain ⟨ka,kc,rfl,-⟩:=hl.slice
    have HL1:=Lib.hid hl;have HPr:=Lib.hid hp;have HKr:=Lib.hid hk;have RR:=Lib.hid hR;have RB:=Lib.hid hB
    clear hl hp hk hR hB
    cases gk with
    |zero=>simp [stmtsF] at hG
    | succ f=>
      rw [stmtsF] at hG
      cases ho:isF s st1 (bs [125]) with
      |none=>rw [ho] at hG;simp at hG
      | some b=>
        rw [ho] at hG
        simp only [Option.bind_eq_bind,Option.bind_some] at hG
        have HB:Hid (isF s st1 ⟨#[125]⟩=some b):=Lib.hid ho
        clear ho
        cases b with
        | true=>
          simp only [Option.some.injEq,Prod.mk.injEq,if_true] at hG
          obtain ⟨rfl,rfl⟩:=hG
          have l_p:=h_lt HPr.out.row
          have l_R:=h_lt RR.out
          have l_B:=h_lt RB.out
          go_wp2_with fail
          clear l_p l_R l_B
          refine (ok_any HPr.out).mono ?_
          rintro r w' ⟨rfl,hw'⟩
          rw [hw']
          clear hw'
          have l_p:=h_lt HPr.out.row
          have l_R:=h_lt RR.out
          have l_B:=h_lt RB.out
          go_wp2_with fail
          clear l_p l_R l_B
          refine (isF_any HPr.out HB.out).mono ?_
          rintro r e51 ⟨rfl,hk⟩
          have Re51_R:=Lib.hid (hk.at RR.out (by simp))
          have Re51_B:=Lib.hid (hk.at RB.out (by simp))
          have HKe51:=Lib.hid (HKr.out.trans hk (by simp))
          have HPe51:=Lib.hid (HPr.out.keep hk)
          have le51:=Lib.hid (OwnL.kp nodeL HL1.out hk (by simp))
          have us_le51:=Nat.le_trans us_l hk.size
          clear hk RR RB HKr HPr HL1 us_l
          have l_p:=h_lt HPe51.out.row
          have l_R:=h_lt Re51_R.out
          have l_B:=h_lt Re51_B.out
          go_wp2_with fail
          clear l_p l_R l_B
          refine (want_any HPe51.out HV.out).mono ?_
          rintro r e52 ⟨rfl,hp,hk⟩
          have Re52_R:=Lib.hid (hk.at Re51_R.out (by simp [n_R_p]))
          have Re52_B:=Lib.hid (hk.at Re51_B.out (by simp [n_B_p]))
          have HKe52:=Lib.hid (HKe51.out.trans hk (by simp))
          have le52:=Lib.hid (OwnL.kp nodeL le51.out hk (by simp [ns_l_p]))
          have us_le52:=Nat.le_trans us_le51 hk.size
          have HPne52:=Lib.hid hp
          clear hp
          clear hk Re51_R Re51_B HKe51 le51 us_le51 HPe51
          have l_p:=h_lt HPne52.out.row
          obtain ⟨l_R,xR_0,xR_1,xR_2,xR_3,xR_4,yR_0,yR_1,yR_2,yR_3,yR_4⟩:=cf5 Re52_R.out
          obtain ⟨l_B,xB_0,xB_1,xB_2,xB_3,xB_4,yB_0,yB_1,yB_2,yB_3,yB_4⟩:=cf5 Re52_B.out
          go_wp2_with fail
          refine ret_at (v:= .agg #[.int .i64 30,.string ⟨#[]⟩,.float .f64 0,.slice ka l.length kc,.complex .f64 (placeOf s fr).1 (placeOf s fr).2]) (fun W=>Keeps [w.heap.size] e52 W∧W.heap[w.heap.size]? =some (.cells #[.int .i64 30,.string ⟨#[]⟩,.float .f64 0,.slice ka l.length kc,.complex .f64 (placeOf s fr).1 (placeOf s fr).2] 58 (0,0))) ⟨(by with_reducible repeat (first|exact k0 _ _|refine kA ?_ _|refine kD ?_|refine kS ?_ (by simp)|refine kM ?_ (by simp))),(by simp only [hS,hA,hD,hM,reduceIte,Option.map_some,Obj.put,Re52_R.out,Nat.ne_of_lt l_R,Nat.ne_of_gt l_R]<;>rfl)⟩ (fun w53 hW=> ?_) rfl (fun w53 hW=> ?_)
          · obtain ⟨Kw53,cw53_R⟩:=hW
            have q0:=cell_of_heap cw53_R 0
            have q1:=cell_of_heap cw53_R 1
            have q2:=cell_of_heap cw53_R 2
            have q3:=cell_of_heap cw53_R 3
            have q4:=cell_of_heap cw53_R 4
            simp at q0 q1 q2 q3 q4
            simp [results,Tryz.results128,go_sem,q0,q1,q2,q3,q4]
          · obtain ⟨Kw53,cw53_R⟩:=hW
            have Rw53_B:=Lib.hid (Kw53.at Re52_B.out (by simp [n_B_R]))
            have HKw53:=Lib.hid (HKe52.out.trans Kw53 (by simp [o_R]))
            have HPw53:=Lib.hid (HPne52.out.keepN Kw53 (by simp [n_p_R]) (by simp [g_R]))
            have lw53:=Lib.hid (OwnL.kp nodeL le52.out Kw53 (by simp [ns_l_R]))
            have us_lw53:=Nat.le_trans us_le52 Kw53.size
            have Rw53_R:=Lib.hid cw53_R
            clear Kw53 cw53_R l_p l_R xR_0 xR_1 xR_2 xR_3 xR_4 yR_0 yR_1 yR_2 yR_3 yR_4 l_B xB_0 xB_1 xB_2 xB_3 xB_4 yB_0 yB_1 yB_2 yB_3 yB_4 Re52_B HKe52 HPne52 le52 us_le52 Re52_R
            exact ⟨_,rfl,.mk ((kids_of_own lw53.out).to dn_l),HPw53.out,HKw53.out⟩
        | false =>
          simp only [Bool.false_eq_true,if_false] at hG
          cases hm:rec .stmt st1 with
          |none=>rw [hm] at hG;simp at hG
          | some y=>
            rw [hm] at hG
            obtain ⟨m,st2⟩:=y
            simp only [Option.bind_some] at hG
            cases hy:linesA s st2 (bs [59]) with
            |none=>rw [hy] at hG;simp at hG
            | some st4=>
              rw [hy] at hG
              simp only [Option.bind_some] at hG
              have HM:=Lib.hid (HRec.out _ _ _ hm);have HF:=Lib.hid hG;have HY:Hid (linesF s ⟨#[59]⟩ (s.size+2) st2=some st4):=Lib.hid hy
              clear hm hG hy
              have l_p:=h_lt HPr.out.row
              have l_R:=h_lt RR.out
              have l_B:=h_lt RB.out
              go_wp2_with fail
              clear l_p l_R l_B
              refine (ok_any HPr.out).mono ?_
              rintro r w' ⟨rfl,hw'⟩
              rw [hw']
              clear hw'
              have l_p:=h_lt HPr.out.row
              have l_R:=h_lt RR.out
              have l_B:=h_lt RB.out
              go_wp2_with fail
              clear l_p l_R l_B
              refine (isF_any HPr.out HB.out).mono ?_
              rintro r e51 ⟨rfl,hk⟩
              have Re51_R:=Lib.hid (hk.at RR.out (by simp))
              have Re51_B:=Lib.hid (hk.at RB.out (by simp))
              have HKe51:=Lib.hid (HKr.out.trans hk (by simp))
              have HPe51:=Lib.hid (HPr.out.keep hk)
              have le51:=Lib.hid (OwnL.kp nodeL HL1.out hk (by simp))
              have us_le51:=Nat.le_trans us_l hk.size
              clear hk RR RB HKr HPr HL1 us_l
              have l_p:=h_lt HPe51.out.row
              obtain ⟨l_R,xR_0,xR_1,xR_2,xR_3,xR_4,yR_0,yR_1,yR_2,yR_3,yR_4⟩:=cf5 Re51_R.out
              obtain ⟨l_B,xB_0,xB_1,xB_2,xB_3,xB_4,yB_0,yB_1,yB_2,yB_3,yB_4⟩:=cf5 Re51_B.out
              go_upto_region 6 with fail
              have HCm:=Lib.hid (hands_at HM.out HPe51.out)
              go_cut [] (fun W=>KidsI s p w.heap.size (e2.heap.size+1) w (.int .i64 30) (.string ⟨#[]⟩) (.float .f64 0) (.complex .f64 (placeOf s fr).1 (placeOf s fr).2) (l++ [m]) ⟨st2.pos,st2.opn,st2.ng⟩ W)
              case first=>
                go_region_law (first
                  |(refine step_app_node rfl (.tmp 25) (.tmp 28) rfl rfl rfl (OwnL.kp nodeL hO (Keeps.alloc [] u_ _) (by simp)) (h_new u_ _) (hn.keep0 (Keeps.alloc [] u_ _)) (fun g hs ht=>Nat.not_lt_of_le hs.1 (Nat.lt_of_lt_of_le (up_l g ht) us_le51)) (fun g hs=>Nat.lt_of_lt_of_le hs.2 (Keeps.alloc [] u_ _).size) (fun g ht=>Nat.lt_of_lt_of_le (up_l g ht) (Nat.le_trans us_le51 (Nat.le_trans hk.size (Keeps.alloc [] u_ _).size))) (Nat.le_trans (HKe51.out.size) (Nat.le_trans hk.size (Keeps.alloc [] u_ _).size)) (by omega) ?_;rintro va wa fl hfl hka hown;obtain ⟨ka2,kc2,hva,-⟩:=hown.slice;generalize (l++ [m]).length=kn at hva;subst hva;have s_B:=hka.at (h_alloc r_B) (fun h=>ns_l_B (hfl _ h));have s3:=cell_of_heap s_B 3;have sf3:=frozen_of_heap s_B 3;have l_B2:=h_lt s_B;simp at s3)
                  |(refine step_call (f:=153) (vals:= #[.pointer (some ⟨p,0,none⟩)]) rfl _ rfl (by kernel_rfl) (HCm.out _ (by with_reducible repeat (first|exact k0 _ _|refine kA ?_ _|refine kD ?_|refine kS ?_ (by simp)|refine kM ?_ (by simp)))) ?_;rintro v u_ ⟨hn,hp,hk⟩;obtain ⟨mt,mm,ma,ml,mc,mr,mi,rfl,-,-⟩:=hn.shape;have r_B:=hk.at Re51_B.out (by simp [n_B_p]);have r_R:=hk.at Re51_R.out (by simp [n_R_p]);have hO:=OwnL.kp nodeL le51.out hk (by simp [ns_l_p]);have l_B:=h_lt r_B;have zB_0:=cell_of_heap r_B 0;have zfB_0:=frozen_of_heap r_B 0;have zB_1:=cell_of_heap r_B 1;have zfB_1:=frozen_of_heap r_B 1;have zB_2:=cell_of_heap r_B 2;have zfB_2:=frozen_of_heap r_B 2;have zB_3:=cell_of_heap r_B 3;have zfB_3:=frozen_of_heap r_B 3;have zB_4:=cell_of_heap r_B 4;have zfB_4:=frozen_of_heap r_B 4;simp at zB_0 zB_1 zB_2 zB_3 zB_4))
                all_goals
                  go_wp2_with fail
                  go_meet
                  case rel=>
                    refine inv_at (fun W=>Keeps [e2.heap.size+1] wa W∧W.heap[e2.heap.size+1]? =some (.cells #[.int .i64 30,.string ⟨#[]⟩,.float .f64 0,.slice ka2 kn kc2,.complex .f64 (placeOf s fr).1 (placeOf s fr).2] 58 (0,0))) ⟨(by with_reducible repeat (first|exact k0 _ _|refine kA ?_ _|refine kD ?_|refine kS ?_ (by simp)|refine kM ?_ (by simp))),(by simp only [heap_set_if,reduceIte,Option.map_some,Obj.put,s_B]<;>rfl)⟩ ?_
                    rintro W ⟨hkW,cB⟩
                    have hua:=Keeps.alloc [] u_ (.cells #[.int .i64 m.kind,.string mt,.float .f64 mm,.slice ma ml mc,.complex .f64 mr mi] 58)
                    have hsB:e2.heap.size+1<u_.heap.size:=l_B
                    exact ⟨_,_,W.heap.size,OwnL.kp nodeL hown hkW (by simp only [List.mem_singleton,forall_eq];exact fun h=>h.elim ns_l_B fun h=>h.elim (fun h=>Nat.not_lt_of_le h.1 (h_lt Re51_B.out)) fun h=>Nat.not_lt_of_le h.1 (Nat.lt_of_lt_of_le hsB hua.size)),
                      fun x h=>h.elim (fun h=>Nat.lt_of_lt_of_le (up_l x h) (Nat.le_trans us_le51 (Nat.le_trans hk.size (Nat.le_trans hua.size (Nat.le_trans hka.size hkW.size))))) fun h=>h.elim (fun h=>Nat.lt_of_lt_of_le h.2 (Nat.le_trans hua.size (Nat.le_trans hka.size hkW.size))) fun h=>Nat.lt_of_lt_of_le h.2 hkW.size,Nat.le_refl _,
                      fun x h=>h.elim (dn_l x) fun h=>h.elim (fun h=>Nat.le_trans (HKe51.out.size) h.1) fun h=>Nat.le_trans (Nat.le_trans (HKe51.out.size) (Nat.le_trans hk.size hua.size)) h.1,
                      fun h=>h.elim ns_l_p fun h=>h.elim (fun h=>Nat.not_lt_of_le h.1 (h_lt HPe51.out.row)) fun h=>Nat.not_lt_of_le h.1 (Nat.lt_of_lt_of_le (h_lt hp.row) hua.size),
                      fun h=>h.elim ns_l_R fun h=>h.elim (fun h=>Nat.not_lt_of_le h.1 (h_lt Re51_R.out)) fun h=>Nat.not_lt_of_le h.1 (Nat.lt_of_lt_of_le (h_lt r_R) hua.size),
                      fun h=>h.elim ns_l_B fun h=>h.elim (fun h=>Nat.not_lt_of_le h.1 (h_lt Re51_B.out)) fun h=>Nat.not_lt_of_le h.1 (Nat.lt_of_lt_of_le hsB hua.size),
                      ((hp.keep hua).keepN hka (fun h=>ns_l_p (hfl _ h)) (fun x h=>Nat.lt_of_lt_of_le g_0 (dn_l x (hfl x h)))).keepN hkW (by simp [n_p_B]) (by simp [g_B]),
                      (((HKe51.out.trans hk (by simp)).trans hua (by simp)).trans hka (fun x h=> .inr (dn_l x (hfl x h)))).trans hkW (by simp [o_B]),
                      hkW.at (hka.at (h_alloc r_R) (fun h=>ns_l_R (hfl _ h))) (by simp [n_R_B]),cB⟩
              case rest=>
                obtain ⟨v2,T2,U2,hl,up_k,us_k,dn_k,ns_k_p,ns_k_R,ns_k_B,hp,hk,hR,hB⟩:=hcut
                have HL2:=Lib.hid hl;have HPc:=Lib.hid hp;have HKc:=Lib.hid hk;have RR2:=Lib.hid hR;have RB2:=Lib.hid hB
                clear hl hp hk hR hB
                have l_p:=h_lt HPc.out.row
                have l_R:=h_lt RR2.out
                have l_B:=h_lt RB2.out
                go_wp2_with fail
                clear l_p l_R l_B
                refine (lines_any HPc.out HY.out).mono ?_
                rintro r e81 ⟨rfl,hp,hk⟩
                have Re81_R:=Lib.hid (hk.at RR2.out (by simp [n_R_p]))
                have Re81_B:=Lib.hid (hk.at RB2.out (by simp [n_B_p]))
                have HKe81:=Lib.hid (HKc.out.trans hk (by simp))
                have ke81:=Lib.hid (OwnL.kp nodeL HL2.out hk (by simp [ns_k_p]))
                have us_ke81:=Nat.le_trans us_k hk.size
                have HPne81:=Lib.hid hp
                clear hp
                clear hk RR2 RB2 HKc HL2 us_k HPc
                have l_p:=h_lt HPne81.out.row
                have l_R:=h_lt Re81_R.out
                have l_B:=h_lt Re81_B.out
                go_wp2_with fail
                go_roundg f
                case measure=>omega
                case rel=>
                  exact ⟨l++ [m],st4,HF.out,by rw [List.length_append,List.length_singleton];omega,v2,T2,U2,ke81.out,up_k,us_ke81,dn_k,ns_k_p,ns_k_R,ns_k_B,HPne81.out,HKe81.out,Re81_R.out,Re81_B.out⟩
end Go.Proofs.YteafcepaolofpaaGreatDoor
end
section
/- Steps that turn but blocks of some types; rows of a call's own of flat things. -/
namespace Go.Proofs.YteafcepaolofpaaGreatDoor
open Go.RowKit

/-- A step that turns but blocks of these types. -/
structure KT (ts:List TypeId) (W W':World):Prop where
  os:W'.os=W.os
  tape:W'.tape=W.tape
  output:W'.output=W.output
  size:W.heap.size≤W'.heap.size
  block:∀k,k<W.heap.size→(∀c t f,W.heap[k]? =some (.cells c t f)→t∉ts)→W'.heap[k]? =W.heap[k]?
theorem KT.refl(ts:List TypeId)(W:World):KT ts W W:=⟨rfl,rfl,rfl,Nat.le_refl _,fun _ _ _=>rfl⟩
theorem KT.trans{ts:List TypeId}{a b c:World}(h:KT ts a b)(k:KT ts b c):KT ts a c:=
  ⟨k.os.trans h.os,k.tape.trans h.tape,k.output.trans h.output,Nat.le_trans h.size k.size,fun i hi hn=>
    (k.block i (Nat.lt_of_lt_of_le hi h.size) (by rw [h.block i hi hn];exact hn)).trans (h.block i hi hn)⟩
theorem KT.at{ts:List TypeId}{w w':World}(h:KT ts w w'){b:Nat}{c:Array Value}{t:TypeId}{f:Nat×Nat}(hb:w.heap[b]? =some (.cells c t f))(ht:t∉ts):w'.heap[b]? =some (.cells c t f):=by
  rw [h.block b (h_lt hb) fun c' t' f' h'=>by rw [hb] at h';simp at h';rw [←h'.2.1];exact ht];exact hb
theorem KT.of{ts:List TypeId}{fp:List Nat}{w w':World}(h:Keeps fp w w')(hf:∀x∈fp,w.heap.size≤x∨∃c t f,w.heap[x]? =some (.cells c t f)∧t∈ts):KT ts w w':=
  ⟨h.os,h.tape,h.output,h.size,fun k hk hn=>h.block k hk fun hm=>by
    rcases hf k hm with h1|⟨c,t,f,h1,h2⟩
    · omega
    · exact hn c t f h1 h2⟩
theorem KT.ofOne{ts:List TypeId}{b:Nat}{w w':World}{c:Array Value}{t:TypeId}{f:Nat×Nat}(h:Keeps [b] w w')(hb:w.heap[b]? =some (.cells c t f))(ht:t∈ts):KT ts w w':=
  KT.of h fun x hx=> .inr ⟨c,t,f,by rw [List.mem_singleton.1 hx];exact hb,ht⟩
theorem KT.of0{ts:List TypeId}{w w':World}(h:Keeps [] w w'):KT ts w w':=KT.of h (by simp)
theorem KT.add{ts:List TypeId}{a b c:World}(h:KT ts a b)(k:Keeps [] b c):KT ts a c:=h.trans (KT.of0 k)
theorem KT.keeps{ts:List TypeId}{w0 w w':World}(h:KT ts w w')(k:Keeps [] w0 w)(hn:∀b,b<w0.heap.size→∀c t f,w.heap[b]? =some (.cells c t f)→t∉ts):Keeps [] w0 w':=
  ⟨h.os.trans k.os,h.tape.trans k.tape,h.output.trans k.output,Nat.le_trans k.size h.size,fun i hi hm=>(h.block i (Nat.lt_of_lt_of_le hi k.size) (hn i hi)).trans (k.block i hi hm)⟩

/-- A row of the call's own that holds l, so laid. -/
def RowD{α:Type}(t:TypeId)(size:Nat)(enc:α→List Value)(W:World)(b:Nat)(l:List α)(a:Option Addr)(cap:Nat):Prop:=W.ownsRow b t size (.slice a l.length cap) l.length (l.flatMap enc)
section
variable {α:Type} {t:TypeId} {size:Nat} {enc:α→List Value}
theorem RowD.kp{W W':World}{b:Nat}{l:List α}{a:Option Addr}{cap:Nat}(h:RowD t size enc W b l a cap)(hk:∀g c,W.heap[g]? =some (.cells c t (0,0))→b≤g→W'.heap[g]? =W.heap[g]?):RowD t size enc W' b l a cap:=
  row_of_block h fun g hg=>by
    rcases h.2 with ⟨h1,-⟩|⟨g',cap',cur,h1,hb,hh,-⟩
    · simp at h1;rw [h1.1] at hg;simp [Value.ownBlock] at hg
    · simp at h1;rw [h1.1] at hg;simp [Value.ownBlock] at hg;subst hg;exact hk _ _ hh hb
theorem flat_get(hs:∀x,(enc x).length=size):∀{l:List α} {i:Nat} (hi:i<l.length) {j:Nat} {u:Value},(enc l[i])[j]? =some u→(l.flatMap enc)[i*size+j]? =some u
  | x::l,0,hi,j,u,h=>by
    rw [List.flatMap_cons,Nat.zero_mul,Nat.zero_add];show (enc x++_)[j]? =_;rw [List.getElem?_append_left (List.getElem?_eq_some_iff.1 (show (enc x)[j]? =some u from h)).1];exact h
  | x::l,i+1,hi,j,u,h=>by
    rw [List.flatMap_cons,List.getElem?_append_right (by rw [hs,Nat.add_mul];omega),hs,show (i+1)*size+j -size=i*size+j from by rw [Nat.add_mul];omega]
    exact flat_get hs (l:=l) (by simpa using hi) (by simpa using h)
theorem RowD.get(hs:∀x,(enc x).length=size){W:World}{b:Nat}{l:List α}{a:Option Addr}{cap:Nat}(h:RowD t size enc W b l a cap){i:Nat}(hi:i<l.length):∃g,a=some ⟨g,0,none⟩∧g<W.heap.size∧(∃c,W.heap[g]? =some (.cells c t (0,0)))∧∀j u,(enc l[i])[j]? =some u→W.cell? ⟨g,i*size+j,none⟩=some u:=by
  rcases h.2 with ⟨h1,h2⟩|⟨g,cap',cur,h1,hb,hh,h3,h4,h5,h6⟩
  · simp at h1;omega
  · simp at h1
    refine ⟨g,h1.1,h_lt hh,⟨_,hh⟩,fun j u hj=> ?_⟩
    rw [cell_of_heap hh]
    have:=flat_get hs hi hj
    rw [←h6,List.getElem?_take] at this
    split at this
    · simpa using this
    · cases this
theorem RowD.cap{W:World}{b:Nat}{l:List α}{a:Option Addr}{cap:Nat}(h:RowD t size enc W b l a cap):l.length≤cap:=by
  rcases h.2 with ⟨h1,h2⟩|⟨g,c,cur,h1,_,_,h3,_⟩
  · omega
  · simp at h1;omega
theorem RowD.nil{W:World}{b:Nat}:RowD t size enc W b ([]:List α) none 0:=World.ownsRow_nil _ _ _ _
end
theorem row_core{α:Type}{t:TypeId}{size:Nat}{enc:α→List Value}{w w1:World}{b g cap cp:Nat}{ad:Option Addr}{l:List α}{x:α}(hO:RowD t size enc w b l ad cp)(hb:b≤w.heap.size)
    (g1:w1.ownsRow b t size (.slice (some ⟨g,0,none⟩) (l.length+1) cap) (l.length+1) (l.flatMap enc++enc x)) (g2:w.grownBy w1 (Value.slice ad l.length cp).ownBlock) (g3:(Value.slice ad l.length cp).ownBlock=some g∨g=w.heap.size):
    RowD t size enc w1 b (l++ [x]) (some ⟨g,0,none⟩) cap∧KT [t] w w1∧(∀c r f,w.heap[g]? =some (.cells c r f)→r=t)∧(∀k,k<b→w1.heap[k]? =w.heap[k]?)∧(∀k,k<w.heap.size→(Value.slice ad l.length cp).ownBlock≠some k→w1.heap[k]? =w.heap[k]?)∧((Value.slice ad l.length cp).ownBlock=some g∨g=w.heap.size):=by
  have hty:∀g',(Value.slice ad l.length cp).ownBlock=some g'→(∃c,w.heap[g']? =some (.cells c t (0,0)))∧b≤g':=fun g' hg'=>by
    rcases hO.2 with ⟨h1,-⟩|⟨g'',cap',cur,h1,hb,hh,-⟩
    · simp at h1;rw [h1.1] at hg';simp [Value.ownBlock] at hg'
    · simp at h1;rw [h1.1] at hg';simp [Value.ownBlock] at hg';subst hg';exact ⟨⟨_,hh⟩,hb⟩
  refine ⟨by unfold RowD;simpa using g1,KT.of (Keeps.grown (fp:=(Value.slice ad l.length cp).ownBlock.toList) g2 fun k hk=> .inl (by simp [hk])) fun y hy=> ?_,fun c r f hc=> ?_,fun k hk=>g2.block k (by omega) fun e=>by have:=(hty k e.symm).2;omega,fun k hk hne=>g2.block k hk fun e=>hne e.symm,g3⟩
  · obtain ⟨⟨c,hc⟩,-⟩:=hty y (by simpa using hy);exact .inr ⟨c,t,(0,0),hc,by simp⟩
  · rcases g3 with g3|g3
    · obtain ⟨⟨c',hc'⟩,-⟩:=hty g g3;rw [hc'] at hc;simp at hc;exact hc.2.1.symm
    · have:=h_lt hc;omega
section
variable {α:Type} {P:Program} {t ty:TypeId} {size:Nat} {enc:α→List Value} {ops:Array Oper} {rest:List Oper} {o:Oper} {a:Act} {w:World} {Q:Exit→Act→World→Prop}
theorem lies_news{x:α}(hs:(enc x).length=size){G:Nat}(hG:∃f,w.heap[G]? =some (.cells (enc x).toArray t f)):∀j u,(enc x)[j]? =some u→w.cell? ((⟨G,0,none⟩:Addr).add j)=some u:=fun j u hj=>by
  obtain ⟨f,hG⟩:=hG
  have:=cell_of_heap hG j
  have e1:(⟨G,0,none⟩:Addr).add j=⟨G,j,none⟩:=by simp [Addr.add];intro h;rw [h]
  rw [e1,this];simpa using hj
/-- append of one. -/
theorem row_app(hs:∀x,(enc x).length=size)(h1c:∀x,∀u∈enc x,u.oneCell'=true)(hgd:o.guard=none)(s y:Operand)
    (ho:o.op= .call {callee:= .builtin .append,args:= #[s,y],argTypes:= #[ty,ty]}) {i:TypeInfo} {z:Value} {bytes:Nat} (hu:P.underlying ty=some (.slice t)) (hi:P.info? t=some i) (hz:i.zero=some z)
    (hsize:i.size=size) (hby:i.bytes=bytes) (hzs:z.cells.size=size) (hsz:0<size) (hbb:bytes≤1000)
    {b G cap cp:Nat} {ad:Option Addr} {l:List α} {x:α} (hsv:a.eval s= .slice ad l.length cp) (hy:a.eval y= .slice (some ⟨G,0,none⟩) 1 cap) (hO:RowD t size enc w b l ad cp)
    (hG:∃f,w.heap[G]? =some (.cells (enc x).toArray t f)) (hb:b≤w.heap.size) (hl:l.length≤4000000)
    (h:∀g cp' w',RowD t size enc w' b (l++ [x]) (some ⟨g,0,none⟩) cp'∧KT [t] w w'∧(∀c r f,w.heap[g]? =some (.cells c r f)→r=t)∧(∀k,k<b→w'.heap[k]? =w.heap[k]?)∧(∀k,k<w.heap.size→(Value.slice ad l.length cp).ownBlock≠some k→w'.heap[k]? =w.heap[k]?)∧((Value.slice ad l.length cp).ownBlock=some g∨g=w.heap.size)→wpList P ops Q rest (a.put o.dst (.slice (some ⟨g,0,none⟩) (l.length+1) cp')) w'):wpList P ops Q (o::rest) a w:=
  wpList_append_lies w hgd s y ty ho b t i z size bytes hu hi hz hsize hby hzs hsz _ l.length _ hsv hO ⟨G,0,none⟩ 1 cap (enc x) hy (by simp [hs]) (lies_news (hs x) hG) (h1c x) (by omega) (by simp [maxLen];omega)
    (Nat.le_trans (Nat.mul_le_mul (show l.length+1≤4000001 by omega) hbb) (by decide)) hb _ rfl fun g cp' w1 g1 g2 g3 _=>h g cp' w1 (row_core hO hb g1 g2 g3)
theorem row_step{K:Act→World→Prop}{E:Prop}(hs:∀x,(enc x).length=size)(h1c:∀x,∀u∈enc x,u.oneCell'=true)(hgd:o.guard=none)(s y:Operand)
    (ho:o.op= .call {callee:= .builtin .append,args:= #[s,y],argTypes:= #[ty,ty]}) {i:TypeInfo} {z:Value} {bytes:Nat} (hu:P.underlying ty=some (.slice t)) (hi:P.info? t=some i) (hz:i.zero=some z)
    (hsize:i.size=size) (hby:i.bytes=bytes) (hzs:z.cells.size=size) (hsz:0<size) (hbb:bytes≤1000)
    {b G cap cp:Nat} {ad:Option Addr} {l:List α} {x:α} (hsv:a.eval s= .slice ad l.length cp) (hy:a.eval y= .slice (some ⟨G,0,none⟩) 1 cap) (hO:RowD t size enc w b l ad cp)
    (hG:∃f,w.heap[G]? =some (.cells (enc x).toArray t f)) (hb:b≤w.heap.size) (hl:l.length≤4000000)
    (h:∀g cp' w',RowD t size enc w' b (l++ [x]) (some ⟨g,0,none⟩) cp'∧KT [t] w w'∧(∀c r f,w.heap[g]? =some (.cells c r f)→r=t)∧(∀k,k<b→w'.heap[k]? =w.heap[k]?)∧(∀k,k<w.heap.size→(Value.slice ad l.length cp).ownBlock≠some k→w'.heap[k]? =w.heap[k]?)∧((Value.slice ad l.length cp).ownBlock=some g∨g=w.heap.size)→K (a.put o.dst (.slice (some ⟨g,0,none⟩) (l.length+1) cp')) w'):
    if Region.wanted o (yielded ops a.tmps)=true then o.wp P a w K Q else E:=
  step_append_lies w hgd s y ty ho b t i z size bytes hu hi hz hsize hby hzs hsz _ l.length _ hsv hO ⟨G,0,none⟩ 1 cap (enc x) hy (by simp [hs]) (lies_news (hs x) hG) (h1c x) (by omega) (by simp [maxLen];omega)
    (Nat.le_trans (Nat.mul_le_mul (show l.length+1≤4000001 by omega) hbb) (by decide)) hb _ rfl fun g cp' w1 g1 g2 g3 _=>h g cp' w1 (row_core hO hb g1 g2 g3)
end
end Go.Proofs.YteafcepaolofpaaGreatDoor
end
section
/- What stays, what a block holds: two scripts. -/
namespace Go.Proofs.YteafcepaolofpaaGreatDoor
open Go.RowKit
theorem kps{p:Prop}(h:p:=by with_reducible repeat (first|exact k0 _ _|refine kA ?_ _|refine kD ?_|refine kS ?_ (by simp)|refine kM ?_ (by simp))):p:=h
theorem cel{p:Prop}(h:p:=by simp only [hS,hA,hD,hM,World.size_alloc,World.size_setCell,World.size_drew,size_mset,Nat.add_right_cancel_iff,Nat.left_eq_add,Nat.add_eq_left,Nat.reduceEqDiff,Nat.add_assoc,Nat.reduceAdd,Nat.one_ne_zero,Nat.zero_ne_one,reduceIte,Option.map_some,Obj.put]<;>rfl):p:=h
theorem celx{q:Prop}(x:q){p:Prop}(h:q→p:=by intro x;simp only [hS,hA,hD,hM,World.size_alloc,World.size_setCell,World.size_drew,size_mset,Nat.add_right_cancel_iff,Nat.left_eq_add,Nat.add_eq_left,Nat.reduceEqDiff,Nat.add_assoc,Nat.reduceAdd,Nat.one_ne_zero,Nat.zero_ne_one,reduceIte,Option.map_some,Obj.put,x]<;>rfl):p:=h x
end Go.Proofs.YteafcepaolofpaaGreatDoor
end
section
/- Maps keyed by strings, and by names' things: what look-up and store do, at the operation. -/
namespace Go.Proofs.YteafcepaolofpaaGreatDoor
open Go.RowKit Go.MapKept

/-- An entry of a map. -/
structure Ent (κ:Type) where
  key:κ
  val:Value
  born:Nat
def ents{κ:Type}(emb:κ→Value)(l:List (Ent κ)):Array MapEntry:=(l.map fun e=>⟨emb e.key,e.val,e.born⟩).toArray
def klook{κ:Type}[DecidableEq κ](k:κ):List (Ent κ)→Nat→Option (Nat×Value)
  | [],_=>none
  |e::es,i=>if k=e.key then some (i,e.val) else klook k es (i+1)
def kval{κ:Type}[DecidableEq κ](k:κ)(l:List (Ent κ)):Option Value:=(klook k l 0).map (·.2)
/-- What 'm[k] = v' makes of the entries. -/
def kput{κ:Type}[DecidableEq κ](k:κ)(v:Value)(clock:Nat)(l:List (Ent κ)):List (Ent κ)×Nat:=
  match klook k l 0 with
  |some (i,_)=>(l.modify i fun e=>{e with val:=v},clock)
  |none=>(l++ [⟨k,v,clock⟩],clock+1)
theorem klook_some{κ:Type}[DecidableEq κ]{k:κ}:∀{l:List (Ent κ)} {i j:Nat} {v:Value},klook k l i=some (j,v)→i≤j∧∃e,l[j -i]? =some e∧e.key=k∧e.val=v
  | [],_,_,_,h=>by cases h
  | e ::es,i,j,v,h=>by
    unfold klook at h
    split at h
    · rename_i hk
      simp only [Option.some.injEq,Prod.mk.injEq] at h
      obtain ⟨rfl,rfl⟩:=h
      exact ⟨Nat.le_refl _,e,by simp,hk.symm,rfl⟩
    · obtain ⟨h1,e',h2,h3⟩:=klook_some h
      refine ⟨by omega,e', ?_,h3⟩
      rw [show j -i=(j -(i+1))+1 from by omega]
      simpa using h2

/-- What a kind of keys must bear. -/
structure KeyK {κ:Type} [DecidableEq κ] (P:Program) (K:TypeId) (emb:κ→Value):Prop where
  find:∀(w:World) (k:κ) (l:List (Ent κ)),(Instr.findKey K (emb k) (ents emb l).toList).run P w= .ok (klook k l 0) w
  check:∀(w:World) (em:Bool) (k:κ),(Instr.checkKey em 10000 K (emb k)).run P w= .ok () w
  stays:∀(w:World) (k:κ),(Instr.keyThatStays (emb k) (emb k)).run P w= .ok (emb k) w

section
variable {P:Program} {κ:Type} [DecidableEq κ] {T K E:TypeId} {emb:κ→Value} {b clock:Nat} {l:List (Ent κ)} {w:World}
theorem run_klook_ok(hK:KeyK P K emb)(hT:P.underlying T=some (.map K E)){z:Value}(hz:(zeroValue E).run P w= .ok z w)(hb:w.heap[b]? =some (.map (ents emb l) clock))(k:κ):
    (Instr.lookup T (.map (some b)) (emb k) true).run P w= .ok (.tuple #[(kval k l).getD z,.bool (kval k l).isSome]) w:=by
  have hf:=hK.find w k l
  unfold kval
  simp only [Instr.lookup,Sem.run_bind,run_underlying hT,MapKept.run_getObj_map hb,hK.check,Result.andThen]
  cases h:klook k l 0 with
  |none=>rw [h] at hf;simp [hz,hf,Result.andThen]
  |some x=>rw [h] at hf;simp [hf]
theorem run_klook(hK:KeyK P K emb)(hT:P.underlying T=some (.map K E)){z:Value}(hz:(zeroValue E).run P w= .ok z w)(hb:w.heap[b]? =some (.map (ents emb l) clock))(k:κ):
    (Instr.lookup T (.map (some b)) (emb k) false).run P w= .ok ((kval k l).getD z) w:=by
  have hf:=hK.find w k l
  unfold kval
  simp only [Instr.lookup,Sem.run_bind,run_underlying hT,MapKept.run_getObj_map hb,hK.check,Result.andThen]
  cases h:klook k l 0 with
  |none=>rw [h] at hf;simp [hz,hf,Result.andThen]
  |some x=>rw [h] at hf;simp [hf]
theorem run_kput(hK:KeyK P K emb)(hT:P.underlying T=some (.map K E))(hb:w.heap[b]? =some (.map (ents emb l) clock))(k:κ)(v:Value):
    (Instr.mapUpdate T (.map (some b)) (emb k) v).run P w= .ok () (mset w b (.map (ents emb (kput k v clock l).1) (kput k v clock l).2)):=by
  have hf:=hK.find w k l
  unfold kput
  cases h:klook k l 0 with
  | none=>
    rw [h] at hf
    simp only [Instr.mapUpdate,Sem.run_bind,run_underlying hT,MapKept.run_getObj_map hb,hK.check,hf,Result.andThen,run_setObj_map _ hb]
    simp [ents,mset]
  | some x=>
    obtain ⟨i,u⟩:=x
    rw [h] at hf
    obtain ⟨_,e,he,hse,_⟩:=klook_some h
    have hi:(ents emb l)[i]? =some ⟨emb e.key,e.val,e.born⟩:=by simp [ents] at he⊢;exact ⟨e,he,rfl,rfl,rfl⟩
    have hkk:((((ents emb l)[i]?).map (·.key)).getD (emb k))=emb k:=by rw [hi];simp [hse]
    simp only [Instr.mapUpdate,Sem.run_bind,run_underlying hT,MapKept.run_getObj_map hb,hK.check,hf,Result.andThen,run_setObj_map _ hb,hkk,hK.stays,mset]
    congr 4
    apply Array.ext'
    simp only [ents,Array.toList_modify]
    apply List.ext_getElem?
    intro j
    simp only [List.getElem?_modify,List.getElem?_map]
    by_cases hij:i=j
    · subst hij
      simp only [Nat.sub_zero] at he
      simp [he,hse]
    · simp [hij]
end

/-! ### keys that are strings -/
theorem bytes_eq_iff{a b:ByteArray}:(a==b)=decide (a=b):=by
  by_cases h:a=b
  · subst h;simp [(bytes_beq a a).2 rfl]
  · have:¬(a==b)=true:=fun h2=>h ((bytes_beq a b).1 h2)
    simp [h,this]
theorem keyS{P:Program}{K:TypeId}(hK:P.underlying K=some .string):KeyK P K (fun s:ByteArray=>Value.string s):={
  find:=fun w k l=>by
    refine run_findKey hK ?_
    have h:∀(l:List (Ent ByteArray)) (i:Nat),Instr.findNow .string (.string k) (l.map fun e=>(⟨.string e.key,e.val,e.born⟩:MapEntry)) i=some (klook k l i):=by
      intro l
      induction l with
      |nil=>intro i;rfl
      | cons e es ih=>
        intro i
        simp only [List.map_cons,Instr.findNow,klook,Instr.sameNow]
        by_cases h:k=e.key
        · subst h;simp [(bytes_beq e.key e.key).2 rfl]
        · rw [bytes_eq_iff];simp [h,ih]
    simpa [ents] using h l 0
  check:=fun w em k=>MapKept.run_checkKey hK (by simp [IsKey]) em 9999
  stays:=fun w k=>MapKept.run_keyThatStays (d:= .string) (by simp [IsKey])
  }
/-! ### keys that are things -/
abbrev Thing:=Nat×ByteArray
def tval(t:Thing):Value:= .agg #[.int .i64 t.1,.string t.2]
theorem run_equal_thing(w:World)(d:Nat)(a b:Thing):(Op.equalIn (d+2) 137 (tval a) (tval b)).run Tryz.prog w= .ok (decide (a=b)) w:=by
  obtain ⟨x,y⟩:=a;obtain ⟨x2,y2⟩:=b
  have hs:Tryz.prog.stoodInHeld 137=false:=by kernel_rfl
  unfold tval
  rw [run_equalIn_struct w (d+1) 137 _ _ (by rw [Program.fieldsOf,Tryz.underlying137]) hs]
  rw [Program.fieldsOf,Tryz.underlying137]
  simp [Op.eqFields,go_sem]
  have e1:((x:Int)=x2)=(x=x2):=propext ⟨fun h=>by omega,fun h=>by rw [h]⟩
  have e2:(y.toList=y2.toList)=(y=y2):=by
    rw [ByteArray.toList_eq,ByteArray.toList_eq]
    refine propext ⟨fun h=> ?_,fun h=>by rw [h]⟩
    cases y;cases y2;simpa using h
  simp only [e1,e2]
  by_cases h1:x=x2<;>by_cases h2:y=y2<;>simp [h1,h2]
theorem keyT:KeyK Tryz.prog 137 tval:={
  find:=fun w k l=>by
    rw [run_findKey_eq w (by rw [Tryz.underlying137])]
    have h:∀(l:List (Ent Thing)) (i:Nat),(Instr.findAsking 137 (tval k) (l.map fun e=>(⟨tval e.key,e.val,e.born⟩:MapEntry)) i).run Tryz.prog w= .ok (klook k l i) w:=by
      intro l
      induction l with
      |nil=>intro i;simp [Instr.findAsking,klook]
      | cons e es ih=>
        intro i
        have he:=run_equal_thing w 9998 k e.key
        simp only [List.map_cons,Instr.findAsking,klook,Sem.run_bind,Op.equal,Op.maxDepth,he,Result.andThen]
        by_cases h:k=e.key
        · simp [h]
        · simp [h,ih]
    simpa [ents] using h l 0
  check:=fun w em k=>by
    obtain ⟨x,y⟩:=k
    have h3:∀n w,(Instr.checkKey em (n+1) 3 (.int .i64 x)).run Tryz.prog w= .ok () w:=fun n w=>MapKept.run_checkKey Tryz.underlying3 (by simp [IsKey]) em n
    have h9:∀n w,(Instr.checkKey em (n+1) 9 (.string y)).run Tryz.prog w= .ok () w:=fun n w=>MapKept.run_checkKey Tryz.underlying9 (by simp [IsKey]) em n
    show (Instr.checkKey em (9998+1+1) 137 (.agg #[.int .i64 x,.string y])).run Tryz.prog w= .ok () w
    generalize (9998:Nat)=n at*
    rw [Instr.checkKey]
    simp only [Sem.run_bind,run_underlying Tryz.underlying137,Result.andThen]
    have hp1:(part 3 #[Value.int IntKind.i64 x,Value.string y] 0).run Tryz.prog w= .ok (.int .i64 x) w:=by simp [go_sem]
    have hp2:(part 9 #[Value.int IntKind.i64 x,Value.string y] 1).run Tryz.prog w= .ok (.string y) w:=by simp [go_sem]
    simp [hp1,hp2,h3,h9,Result.andThen]
  stays:=fun w k=>by
    obtain ⟨x,y⟩:=k
    have:(y==y)=true:=(bytes_beq y y).2 rfl
    simp [Instr.keyThatStays,tval,Instr.sameBits,this]
  }
end Go.Proofs.YteafcepaolofpaaGreatDoor
end
