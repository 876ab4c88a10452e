/- Texts of this claim, joined: LevelsI, Own, LevelsJ, LevelsK. -/
import Derived.Test.YteafcepaolofpaaGreatDoorLevelsH
import Derived.Deep.AppendLies
set_option maxRecDepth 100000
set_option maxHeartbeats 4000000
set_option linter.unusedSimpArgs false
set_option linter.unusedVariables false
set_option linter.unusedSectionVars false
section
/- concat, walked. Made by a program (parse.py, walk.py). -/
namespace Go.Proofs.YteafcepaolofpaaGreatDoor
open Go.RowKit

theorem concat_lv{s:ByteArray}{p:Nat}{st st':PSt}{n':Node}{rec:Rec}(hrec:∀st st' n,rec .sum st=some (n,st')→Hands s p st st' n 259)(hx:step s rec .concat st=some (n',st')):Hands s p st st' n' 256:=by
  simp only [step] at hx
  cases h1:rec .sum st with
  |none=>rw [h1] at hx;simp at hx
  | some y=>
    rw [h1] at hx
    obtain ⟨n,st1⟩:=y
    simp only [Option.bind_eq_bind,Option.bind_some] at hx
    have hsub:=hrec _ _ _ h1
    intro w h
    have g_p:=h.p
    have HP0:=Lib.hid h;have HK0:=Lib.hid (Keeps.refl [p] w);have HS1:=Lib.hid hsub;have HRec:=Lib.hid hrec;have HG:=Lib.hid hx
    clear h hsub hrec hx h1
    go_enter Tryz.func256,Tryz.ntmps256
    have l_p:=h_lt HP0.out.row
    go_wp2_with fail
    refine calls_at (fun W=>Keeps [] w W∧W.heap[w.heap.size]? =some (.cells #[.int .i64 0,.string ⟨#[]⟩,.float .f64 0,.slice none 0 0,.complex .f64 0 0] 58 (0,0))) ⟨(by with_reducible repeat (first|exact k0 _ _|refine kA ?_ _|refine kD ?_|refine kS ?_ (by simp)|refine kM ?_ (by simp))),(by simp only [hS,hA,hD,hM,World.size_setCell,World.size_drew,reduceIte,Option.map_some,Obj.put]<;>rfl)⟩ ?_
    rintro w1 ⟨Kw1,cw1_R⟩
    have n_p_R:p≠w.heap.size:=Nat.ne_of_lt l_p
    have n_R_p:w.heap.size≠p:=Nat.ne_of_gt l_p
    have o_R:w.heap.size≤w.heap.size:=Nat.le_refl _
    have g_R:13<w.heap.size:=Nat.lt_trans g_p l_p
    have HKw1:=Lib.hid (HK0.out.trans Kw1 (by simp))
    have HPw1:=Lib.hid (HP0.out.keep Kw1)
    have Rw1_R:=Lib.hid cw1_R
    clear Kw1 cw1_R l_p HK0 HP0
    refine (HS1.out _ HPw1.out).mono ?_
    rintro r e2 ⟨v,rfl,hn,hp,hk⟩
    have Re2_R:=Lib.hid (hk.at Rw1_R.out (by simp [n_R_p]))
    have HKe2:=Lib.hid (HKw1.out.trans hk (by simp))
    have HPne2:=Lib.hid hp
    have ne2:=Lib.hid hn.seg
    have o_n:w.heap.size≤w1.heap.size:=HKw1.out.size
    have ns_n_p:¬(Seg w1.heap.size e2.heap.size) (p):=fun h=>Nat.not_lt_of_le h.1 (h_lt HPw1.out.row)
    have ns_n_R:¬(Seg w1.heap.size e2.heap.size) (w.heap.size):=fun h=>Nat.not_lt_of_le h.1 (h_lt Rw1_R.out)
    have up_n:∀g,(Seg w1.heap.size e2.heap.size) g→g<e2.heap.size:=fun _ h=>h.2
    have dn_n:∀g,(Seg w1.heap.size e2.heap.size) g→w.heap.size≤g:=fun _ h=>Nat.le_trans o_n h.1
    obtain ⟨nt,nm,na,nl,nc,nr,ni,rfl,-,-⟩:=hn.shape
    clear hn hp
    clear hk Rw1_R HKw1 HPw1
    have l_p:=h_lt HPne2.out.row
    have l_R:=h_lt Re2_R.out
    go_wp2_with fail
    refine wp_at (fun W=>Keeps [] e2 W∧W.heap[e2.heap.size]? =some (.cells #[.int .i64 n.kind,.string nt,.float .f64 nm,.slice na nl nc,.complex .f64 nr ni] 58 (0,0))) ⟨(by with_reducible repeat (first|exact k0 _ _|refine kA ?_ _|refine kD ?_|refine kS ?_ (by simp)|refine kM ?_ (by simp))),(by simp only [hS,hA,hD,hM,World.size_setCell,World.size_drew,reduceIte,Option.map_some,Obj.put]<;>rfl)⟩ ?_
    rintro w3 ⟨Kw3,cw3_B⟩
    have n_p_B:p≠e2.heap.size:=Nat.ne_of_lt l_p
    have n_B_p:e2.heap.size≠p:=Nat.ne_of_gt l_p
    have n_R_B:w.heap.size≠e2.heap.size:=Nat.ne_of_lt l_R
    have n_B_R:e2.heap.size≠w.heap.size:=Nat.ne_of_gt l_R
    have o_B:w.heap.size≤e2.heap.size:=HKe2.out.size
    have g_B:13<e2.heap.size:=Nat.lt_trans g_p l_p
    have ns_n_B:¬(Seg w1.heap.size e2.heap.size) (e2.heap.size):=fun h=>Nat.not_lt_of_le ((Nat.le_refl e2.heap.size)) (up_n _ h)
    have Rw3_R:=Lib.hid (Kw3.at Re2_R.out (by simp))
    have HKw3:=Lib.hid (HKe2.out.trans Kw3 (by simp))
    have HPw3:=Lib.hid (HPne2.out.keep Kw3)
    have nw3:=Lib.hid (ne2.out.kp Kw3 (by simp))
    have us_nw3:=Nat.le_trans (Nat.le_refl e2.heap.size) Kw3.size
    have Rw3_B:=Lib.hid cw3_B
    clear Kw3 cw3_B l_p l_R Re2_R HKe2 HPne2 ne2
    go_loopg [] 50 (fun g wr=>LoopN s p w.heap.size e2.heap.size w (fun g n st=>concatF s rec g n st=some (n',st')) g wr)
    case atStart=>exact ⟨n,st1,nt,nm,na,nl,nc,nr,ni,Seg w1.heap.size e2.heap.size,_,HG.out,nw3.out,up_n,us_nw3,dn_n,ns_n_p,ns_n_R,ns_n_B,HPw3.out,HKw3.out,Rw3_R.out,Rw3_B.out⟩
    clear HG
    case round=>
      obtain ⟨n1,st1,nt,nm,na,nl,nc,nr,ni,S,U,hG,hn,up_n,us_n,dn_n,ns_n_p,ns_n_R,ns_n_B,hp,hk,hR,hB⟩:=hrel
      have HN1:=Lib.hid hn;have HPr:=Lib.hid hp;have HKr:=Lib.hid hk;have RR:=Lib.hid hR;have RB:=Lib.hid hB
      clear hn hp hk hR hB
      cases gk with
      |zero=>simp [concatF] at hG
      | succ f=>
        rw [concatF] at hG
        cases ho:goesF s st1 with
        |none=>rw [ho] at hG;simp at hG
        | some b=>
          rw [ho] at hG
          simp only [Option.bind_eq_bind,Option.bind_some] at hG
          cases b with
          | false=>
            simp only [Option.some.injEq,Prod.mk.injEq,Bool.false_eq_true,if_false] at hG
            obtain ⟨rfl,rfl⟩:=hG
            have HT:=Lib.hid ho
            clear ho
            have l_p:=h_lt HPr.out.row
            have l_R:=h_lt RR.out
            have l_B:=h_lt RB.out
            go_wp2_with fail
            clear l_p l_R l_B
            refine (goes_any HPr.out HT.out).mono ?_
            rintro r e51 ⟨rfl,hk⟩
            have Re51_R:=Lib.hid (hk.at RR.out (by simp))
            have Re51_B:=Lib.hid (hk.at RB.out (by simp))
            have HKe51:=Lib.hid (HKr.out.trans hk (by simp))
            have HPe51:=Lib.hid (HPr.out.keep hk)
            have ne51:=Lib.hid (HN1.out.kp hk (by simp))
            have us_ne51:=Nat.le_trans us_n hk.size
            clear hk RR RB HKr HPr HN1 us_n
            have l_p:=h_lt HPe51.out.row
            obtain ⟨l_R,xR_0,xR_1,xR_2,xR_3,xR_4,yR_0,yR_1,yR_2,yR_3,yR_4⟩:=cf5 Re51_R.out
            obtain ⟨l_B,xB_0,xB_1,xB_2,xB_3,xB_4,yB_0,yB_1,yB_2,yB_3,yB_4⟩:=cf5 Re51_B.out
            go_wp2_with fail
            refine ret_at (v:= .agg #[.int .i64 n1.kind,.string nt,.float .f64 nm,.slice na nl nc,.complex .f64 nr ni]) (fun W=>Keeps [w.heap.size] e51 W∧W.heap[w.heap.size]? =some (.cells #[.int .i64 n1.kind,.string nt,.float .f64 nm,.slice na nl nc,.complex .f64 nr ni] 58 (0,0))) ⟨(by with_reducible repeat (first|exact k0 _ _|refine kA ?_ _|refine kD ?_|refine kS ?_ (by simp)|refine kM ?_ (by simp))),(by simp only [hS,hA,hD,hM,reduceIte,Option.map_some,Obj.put,Re51_R.out,Nat.ne_of_lt l_R,Nat.ne_of_gt l_R]<;>rfl)⟩ (fun w52 hW=> ?_) rfl (fun w52 hW=> ?_)
            · obtain ⟨Kw52,cw52_R⟩:=hW
              have q0:=cell_of_heap cw52_R 0
              have q1:=cell_of_heap cw52_R 1
              have q2:=cell_of_heap cw52_R 2
              have q3:=cell_of_heap cw52_R 3
              have q4:=cell_of_heap cw52_R 4
              simp at q0 q1 q2 q3 q4
              simp [results,Tryz.results256,go_sem,q0,q1,q2,q3,q4]
            · obtain ⟨Kw52,cw52_R⟩:=hW
              have Rw52_B:=Lib.hid (Kw52.at Re51_B.out (by simp [n_B_R]))
              have HKw52:=Lib.hid (HKe51.out.trans Kw52 (by simp [o_R]))
              have HPw52:=Lib.hid (HPe51.out.keepN Kw52 (by simp [n_p_R]) (by simp [g_R]))
              have nw52:=Lib.hid (ne51.out.kp Kw52 (by simp [ns_n_R]))
              have us_nw52:=Nat.le_trans us_ne51 Kw52.size
              have Rw52_R:=Lib.hid cw52_R
              clear Kw52 cw52_R l_p l_R xR_0 xR_1 xR_2 xR_3 xR_4 yR_0 yR_1 yR_2 yR_3 yR_4 l_B xB_0 xB_1 xB_2 xB_3 xB_4 yB_0 yB_1 yB_2 yB_3 yB_4 Re51_B HKe51 HPe51 ne51 us_ne51 Re51_R
              exact ⟨_,rfl,nw52.out.to dn_n,HPw52.out,HKw52.out⟩
          | true=>
            simp only [if_true] at hG
            cases hm:rec .sum st1 with
            |none=>rw [hm] at hG;simp at hG
            | some y=>
              rw [hm] at hG
              obtain ⟨m,st2⟩:=y
              simp only [Option.bind_some] at hG
              have HM:=Lib.hid (HRec.out _ _ _ hm);have HT:=Lib.hid ho
              have hri:=HN1.out.reim
              rw [←hri.1,←hri.2] at hG
              have HF:=Lib.hid hG
              clear hri
              clear hm hG ho
              have l_p:=h_lt HPr.out.row
              have l_R:=h_lt RR.out
              have l_B:=h_lt RB.out
              go_wp2_with fail
              clear l_p l_R l_B
              refine (goes_any HPr.out HT.out).mono ?_
              rintro r e51 ⟨rfl,hk⟩
              have Re51_R:=Lib.hid (hk.at RR.out (by simp))
              have Re51_B:=Lib.hid (hk.at RB.out (by simp))
              have HKe51:=Lib.hid (HKr.out.trans hk (by simp))
              have HPe51:=Lib.hid (HPr.out.keep hk)
              have ne51:=Lib.hid (HN1.out.kp hk (by simp))
              have us_ne51:=Nat.le_trans us_n hk.size
              clear hk RR RB HKr HPr HN1 us_n
              have l_p:=h_lt HPe51.out.row
              have l_R:=h_lt Re51_R.out
              obtain ⟨l_B,xB_0,xB_1,xB_2,xB_3,xB_4,yB_0,yB_1,yB_2,yB_3,yB_4⟩:=cf5 Re51_B.out
              go_upto_region 3 with fail
              have HCm:=Lib.hid (hands_at HM.out HPe51.out)
              go_upto_region 3 with fail
              go_region_law ((refine step_call (f:=259) (vals:= #[.pointer (some ⟨p,0,none⟩)]) rfl _ rfl (by kernel_rfl) (HCm.out _ (by with_reducible repeat (first|exact k0 _ _|refine kA ?_ _|refine kD ?_|refine kS ?_ (by simp)|refine kM ?_ (by simp)))) ?_;rintro v u_ ⟨hn,hp,hk⟩;obtain ⟨mt,mm,ma,ml,mc,mr,mi,rfl,-,-⟩:=hn.shape;have r_R:=hk.at Re51_R.out (by simp [n_R_p]);have l_R:=h_lt r_R;have r_B:=hk.at Re51_B.out (by simp [n_B_p]);have l_B:=h_lt r_B;have zB_0:=cell_of_heap r_B 0;have zfB_0:=frozen_of_heap r_B 0;have zB_1:=cell_of_heap r_B 1;have zfB_1:=frozen_of_heap r_B 1;have zB_2:=cell_of_heap r_B 2;have zfB_2:=frozen_of_heap r_B 2;have zB_3:=cell_of_heap r_B 3;have zfB_3:=frozen_of_heap r_B 3;have zB_4:=cell_of_heap r_B 4;have zfB_4:=frozen_of_heap r_B 4;simp at zB_0 zB_1 zB_2 zB_3 zB_4))
              all_goals
                have Ru__R:=Lib.hid (hk.at Re51_R.out (by simp [n_R_p]))
                have Ru__B:=Lib.hid (hk.at Re51_B.out (by simp [n_B_p]))
                have HKu_:=Lib.hid (HKe51.out.trans hk (by simp))
                have nu_:=Lib.hid (ne51.out.kp hk (by simp [ns_n_p]))
                have us_nu_:=Nat.le_trans us_ne51 hk.size
                have HPnu_:=Lib.hid hp
                have mu_:=Lib.hid hn
                have o_m:w.heap.size≤e51.heap.size:=HKe51.out.size
                have ns_m_p:¬(Seg e51.heap.size u_.heap.size) (p):=fun h=>Nat.not_lt_of_le h.1 (h_lt HPe51.out.row)
                have ns_m_R:¬(Seg e51.heap.size u_.heap.size) (w.heap.size):=fun h=>Nat.not_lt_of_le h.1 (h_lt Re51_R.out)
                have ns_m_B:¬(Seg e51.heap.size u_.heap.size) (e2.heap.size):=fun h=>Nat.not_lt_of_le h.1 (h_lt Re51_B.out)
                have up_m:∀g,(Seg e51.heap.size u_.heap.size) g→g<u_.heap.size:=fun _ h=>h.2
                have dn_m:∀g,(Seg e51.heap.size u_.heap.size) g→w.heap.size≤g:=fun _ h=>Nat.le_trans o_m h.1
                clear hn hp
                clear hk Re51_R Re51_B HKe51 ne51 us_ne51 HPe51 xB_0 xB_1 xB_2 xB_3 xB_4 yB_0 yB_1 yB_2 yB_3 yB_4
                have l_p:=h_lt HPnu_.out.row
                have l_R:=h_lt Ru__R.out
                have l_B:=h_lt Ru__B.out
                go_wp2_with fail
                go_roundg f
                case measure=>omega
                case rel=>
                  refine inv_at (fun W=>Keeps [e2.heap.size] u_ W∧W.heap[e2.heap.size]? =some (.cells #[.int .i64 14,.string ⟨#[]⟩,.float .f64 0,.slice (some ⟨u_.heap.size,0,none⟩) 2 2,.complex .f64 nr ni] 58 (0,0))∧W.heap[u_.heap.size]? =some (.cells #[.int .i64 n1.kind,.string nt,.float .f64 nm,.slice na nl nc,.complex .f64 nr ni,.int .i64 m.kind,.string mt,.float .f64 mm,.slice ma ml mc,.complex .f64 mr mi] 58 (0,0))) ⟨(by with_reducible repeat (first|exact k0 _ _|refine kA ?_ _|refine kD ?_|refine kS ?_ (by simp)|refine kM ?_ (by simp))),(by simp only [hS,hA,hD,hM,World.size_setCell,World.size_drew,reduceIte,Option.map_some,Obj.put,Ru__B.out,Nat.ne_of_lt l_B,Nat.ne_of_gt l_B]<;>rfl),(by simp only [hS,hA,hD,hM,World.size_setCell,World.size_drew,reduceIte,Option.map_some,Obj.put,Ru__B.out,Nat.ne_of_lt l_B,Nat.ne_of_gt l_B]<;>rfl)⟩ ?_
                  rintro w52 ⟨Kw52,cw52_B,cw52_G⟩
                  have n_p_G:p≠u_.heap.size:=Nat.ne_of_lt l_p
                  have n_G_p:u_.heap.size≠p:=Nat.ne_of_gt l_p
                  have n_R_G:w.heap.size≠u_.heap.size:=Nat.ne_of_lt l_R
                  have n_G_R:u_.heap.size≠w.heap.size:=Nat.ne_of_gt l_R
                  have n_B_G:e2.heap.size≠u_.heap.size:=Nat.ne_of_lt l_B
                  have n_G_B:u_.heap.size≠e2.heap.size:=Nat.ne_of_gt l_B
                  have o_G:w.heap.size≤u_.heap.size:=HKu_.out.size
                  have g_G:13<u_.heap.size:=Nat.lt_trans g_p l_p
                  have ns_n_G:¬(S) (u_.heap.size):=fun h=>Nat.not_lt_of_le (us_nu_) (up_n _ h)
                  have ns_m_G:¬(Seg e51.heap.size u_.heap.size) (u_.heap.size):=fun h=>Nat.not_lt_of_le ((Nat.le_refl u_.heap.size)) (up_m _ h)
                  have Rw52_R:=Lib.hid (Kw52.at Ru__R.out (by simp [n_R_B]))
                  have HKw52:=Lib.hid (HKu_.out.trans Kw52 (by simp [o_B]))
                  have HPw52:=Lib.hid (HPnu_.out.keepN Kw52 (by simp [n_p_B]) (by simp [g_B]))
                  have nw52:=Lib.hid (nu_.out.kp Kw52 (by simp [ns_n_B]))
                  have us_nw52:=Nat.le_trans us_nu_ Kw52.size
                  have mw52:=Lib.hid (mu_.out.kp Kw52 (by simp [ns_m_B]))
                  have us_mw52:=Nat.le_trans (Nat.le_refl u_.heap.size) Kw52.size
                  have Rw52_B:=Lib.hid cw52_B
                  have Rw52_G:=Lib.hid cw52_G
                  clear Kw52 cw52_B cw52_G l_p l_R l_B Ru__R HKu_ HPnu_ nu_ us_nu_ mu_ Ru__B
                  exact ⟨.mk 14 ⟨#[]⟩ 0 [n1,m] nr ni,_,⟨#[]⟩,0,some ⟨u_.heap.size,0,none⟩,2,2,_,_,(fun x=>S x∨(Seg e51.heap.size u_.heap.size) x∨x=u_.heap.size),w52.heap.size,HF.out,
                    .mk (.some (.inr (.inr rfl)) (h_lt Rw52_G.out) (row2 nw52.out (fun _ h=> .inl h) mw52.out (fun _ h=> .inr (.inl h)) Rw52_G.out)),
                    fun x h=>h.elim (fun h=>Nat.lt_of_lt_of_le (up_n x h) us_nw52) fun h=>h.elim (fun h=>Nat.lt_of_lt_of_le (up_m x h) us_mw52) fun h=>by rw [h];exact h_lt Rw52_G.out,
                    Nat.le_refl _,fun x h=>h.elim (dn_n x) fun h=>h.elim (dn_m x) fun h=>by rw [h];exact o_G,
                    (fun h=>h.elim ns_n_p fun h=>h.elim ns_m_p n_p_G),(fun h=>h.elim ns_n_R fun h=>h.elim ns_m_R n_R_G),(fun h=>h.elim ns_n_B fun h=>h.elim ns_m_B n_B_G),HPw52.out,HKw52.out,Rw52_R.out,Rw52_B.out⟩
end Go.Proofs.YteafcepaolofpaaGreatDoor
end
section
/- Rows of the call's own whose elements are told by a relation; append onto them. -/
namespace Go.Proofs.YteafcepaolofpaaGreatDoor
open Go.RowKit

/-- Elements, each told by its cells. -/
inductive Elems {α:Type} (E:α→List Value→Prop):List α→List Value→Prop
  |nil:Elems E [] []
  |cons {a:α} {c:List Value} {l:List α} {xs:List Value} (h:E a c) (t:Elems E l xs):Elems E (a::l) (c++xs)
theorem Elems.mono{α:Type}{E E':α→List Value→Prop}(h:∀a c,E a c→E' a c){l:List α}{xs:List Value}(t:Elems E l xs):Elems E' l xs:=by
  induction t with
  |nil=>exact .nil
  |cons h1 _ ih=>exact .cons (h _ _ h1) ih
theorem Elems.snoc{α:Type}{E:α→List Value→Prop}{l:List α}{xs:List Value}{a:α}{c:List Value}(t:Elems E l xs)(h:E a c):Elems E (l++ [a]) (xs++c):=by
  induction t with
  |nil=>simpa using Elems.cons h .nil
  |cons h1 _ ih=>simpa using Elems.cons h1 ih
theorem Elems.len{α:Type}{E:α→List Value→Prop}{k:Nat}(h:∀a c,E a c→c.length=k){l:List α}{xs:List Value}(t:Elems E l xs):xs.length=l.length*k:=by
  induction t with
  |nil=>simp
  |cons h1 _ ih=>simp [h _ _ h1,ih,Nat.add_mul,Nat.add_comm]

/-- What an element's relation must bear: it stays where what it lies in stays; its cells are so many, each one cell. -/
structure ElemL {α:Type} (E:World→(Nat→Prop)→α→List Value→Prop) (size:Nat):Prop where
  keep:∀{w w':World} {S S':Nat→Prop} {fp:List Nat} {a:α} {c:List Value},E w S a c→Keeps fp w w'→(∀x∈fp,¬S x)→(∀x,S x→S' x)→E w' S' a c
  len:∀{w:World} {S:Nat→Prop} {a:α} {c:List Value},E w S a c→c.length=size
  one:∀{w:World} {S:Nat→Prop} {a:α} {c:List Value},E w S a c→∀u∈c,u.oneCell'=true

/-- The value v is a slice of the call's own that holds l; it and what its elements lie in are blocks of T. -/
def OwnL{α:Type}(E:World→(Nat→Prop)→α→List Value→Prop)(e:TypeId)(size:Nat)(w:World)(b:Nat)(T:Nat→Prop)(l:List α)(v:Value):Prop:=
  ∃xs,w.ownsRow b e size v l.length xs∧(∀g,v.ownBlock=some g→T g)∧Elems (E w (fun g=>T g∧v.ownBlock≠some g)) l xs

section
variable {α:Type} {E:World→(Nat→Prop)→α→List Value→Prop} {e:TypeId} {size:Nat}
theorem OwnL.nil{w:World}{b:Nat}{T:Nat→Prop}:OwnL E e size w b T [] (.slice none 0 0):=⟨[],World.ownsRow_nil _ _ _ _,fun _ h=>by simp [Value.ownBlock] at h,.nil⟩
theorem OwnL.kp(hE:ElemL E size){w w':World}{b:Nat}{T:Nat→Prop}{fp:List Nat}{l:List α}{v:Value}(h:OwnL E e size w b T l v)(hk:Keeps fp w w')(hf:∀x∈fp,¬T x):OwnL E e size w' b T l v:=by
  obtain ⟨xs,ho,ht,hx⟩:=h
  refine ⟨xs,row_of_block ho fun g hg=> ?_,ht,hx.mono fun a c h=>hE.keep h hk (fun x hx hs=>hf x hx hs.1) fun _ h=>h⟩
  obtain ⟨cur,hc⟩:=own_block ho hg
  exact hk.block g (h_lt hc) fun hm=>hf g hm (ht g hg)
theorem OwnL.to(hE:ElemL E size){w:World}{b:Nat}{T T':Nat→Prop}{l:List α}{v:Value}(h:OwnL E e size w b T l v)(hT:∀x,T x→T' x):OwnL E e size w b T' l v:=by
  obtain ⟨xs,ho,ht,hx⟩:=h
  exact ⟨xs,ho,fun g hg=>hT g (ht g hg),hx.mono fun a c h=>hE.keep h (Keeps.refl [] w) (by simp) fun x hx=>⟨hT x hx.1,hx.2⟩⟩
theorem OwnL.base{w:World}{b b':Nat}{T:Nat→Prop}{l:List α}{v:Value}(h:OwnL E e size w b T l v)(hb:b'≤b):OwnL E e size w b' T l v:=by
  obtain ⟨xs,ho,ht,hx⟩:=h
  exact ⟨xs,row_mono ho hb,ht,hx⟩
theorem OwnL.slice{w:World}{b:Nat}{T:Nat→Prop}{l:List α}{v:Value}(h:OwnL E e size w b T l v):∃a cap,v= .slice a l.length cap∧(∀x,a=some x→∃g,x=⟨g,0,none⟩∧T g∧g<w.heap.size):=by
  obtain ⟨xs,ho,ht,hx⟩:=h
  rcases ho.2 with ⟨rfl,hn⟩|⟨g,cap,cur,rfl,hb,hg,_⟩
  · exact ⟨none,0,by rw [hn],fun _ h=>by cases h⟩
  · exact ⟨_,cap,rfl,fun x hx=>⟨g,by simpa using hx.symm,ht g rfl,h_lt hg⟩⟩
theorem OwnL.one(hE:ElemL E size){w:World}{b:Nat}{T S:Nat→Prop}{x:α}{c:List Value}{G:Nat}(hG:w.heap[G]? =some (.cells c.toArray e (0,0)))(hb:b≤G)(hT:T G)(hx:E w S x c)(hS:∀g,S g→T g∧g≠G):
    OwnL E e size w b T [x] (.slice (some ⟨G,0,none⟩) 1 1):=by
  have hl:=hE.len hx
  refine ⟨c,⟨by simp [hl],.inr ⟨G,1,c.toArray,rfl,hb,hG,Nat.le_refl _,by simp [maxLen],by simp [hl], ?_⟩⟩,fun g hg=> ?_, ?_⟩
  · rw [List.take_of_length_le (by simp [hl])]
  · simp [Value.ownBlock] at hg;rw [←hg];exact hT
  · simpa using Elems.cons (hE.keep hx (Keeps.refl [] w) (by simp) fun g hg=>⟨(hS g hg).1,fun h=>(hS g hg).2 (by simpa [Value.ownBlock] using h.symm)⟩) .nil

theorem own_grown(hE:ElemL E size){w w1:World}{b g cap:Nat}{T S:Nat→Prop}{l:List α}{x:α}{v:Value}{c xs:List Value}(ho:w.ownsRow b e size v l.length xs)(ht:∀g,v.ownBlock=some g→T g)
    (hx:Elems (E w (fun g=>T g∧v.ownBlock≠some g)) l xs) (hm:E w S x c) (hd:∀g,S g→¬T g) (hS:∀g,S g→g<w.heap.size) (hT:∀g,T g→g<w.heap.size)
    (hown:w1.ownsRow b e size (.slice (some ⟨g,0,none⟩) (l.length+1) cap) (l.length+1) (xs++c)) (hgr:w.grownBy w1 v.ownBlock) (hat:v.ownBlock=some g∨g=w.heap.size) (hlt:g<w1.heap.size):
    OwnL E e size w1 b (fun k=>T k∨S k∨(w.heap.size≤k∧k<w1.heap.size)) (l++ [x]) (.slice (some ⟨g,0,none⟩) (l.length+1) cap)∧∃fl:List Nat,(∀y∈fl,T y)∧Keeps fl w w1:=by
  have hfl:∀y∈v.ownBlock.toList,T y:=fun y hy=>ht y (by simpa using hy)
  have hk:Keeps v.ownBlock.toList w w1:=Keeps.grown hgr fun k hk=> .inl (by simp [hk])
  refine ⟨⟨xs++c,by simpa using hown,fun k hk=> ?_, ?_⟩,_,hfl,hk⟩
  · simp [Value.ownBlock] at hk
    subst hk
    rcases hat with h|h
    · exact .inl (ht _ h)
    · exact .inr (.inr ⟨Nat.le_of_eq h.symm,hlt⟩)
  · have h1:Elems (E w1 (fun k=>(T k∨S k∨(w.heap.size≤k∧k<w1.heap.size))∧(Value.slice (some ⟨g,0,none⟩) (l.length+1) cap).ownBlock≠some k)) l xs:=
      hx.mono fun a c h=>hE.keep h hk (fun y hy hs=>hs.2 (by simpa using hy)) fun k hs=>⟨.inl hs.1,fun e1=>by
        simp [Value.ownBlock] at e1
        subst e1
        rcases hat with h|h
        · exact hs.2 h
        · exact Nat.lt_irrefl _ (h▸hT _ hs.1)⟩
    refine h1.snoc (hE.keep hm hk (fun y hy hs=>hd y hs (hfl y hy)) fun k hs=>⟨.inr (.inl hs),fun e1=> ?_⟩)
    simp [Value.ownBlock] at e1
    subst e1
    rcases hat with h|h
    · exact hd _ hs (ht _ h)
    · exact Nat.lt_irrefl _ (h▸hS _ hs)

/-- append of one element. -/
theorem wpList_appL{P:Program}(hE:ElemL E size){ops:Array Oper}{rest:List Oper}{o:Oper}{a:Act}{w:World}{Q:Exit→Act→World→Prop}(hgd:o.guard=none)(s y:Operand)(t:TypeId)
    (ho:o.op= .call {callee:= .builtin .append,args:= #[s,y],argTypes:= #[t,t]}) {i:TypeInfo} {z:Value} {bytes:Nat} (hu:P.underlying t=some (.slice e)) (hi:P.info? e=some i) (hz:i.zero=some z)
    (hsize:i.size=size) (hby:i.bytes=bytes) (hzs:z.cells.size=size) (hsz:0<size) (hbb:bytes≤1000)
    {b G cap:Nat} {T S:Nat→Prop} {l:List α} {x:α} {v:Value} {c:List Value} (hs:a.eval s=v) (hy:a.eval y= .slice (some ⟨G,0,none⟩) 1 cap) (hO:OwnL E e size w b T l v)
    (hG:w.heap[G]? =some (.cells c.toArray e (0,0))) (hm:E w S x c) (hd:∀g,S g→¬T g) (hS:∀g,S g→g<w.heap.size) (hT:∀g,T g→g<w.heap.size) (hb:b≤w.heap.size) (hl:l.length≤400000)
    (h:∀v' w' fl,(∀x∈fl,T x)→Keeps fl w w'→OwnL E e size w' b (fun g=>T g∨S g∨(w.heap.size≤g∧g<w'.heap.size)) (l++ [x]) v'→wpList P ops Q rest (a.put o.dst v') w'):wpList P ops Q (o::rest) a w:=by
  obtain ⟨xs,hown,ht,hx⟩:=hO
  have hlen:=hE.len hm
  refine wpList_append_lies w hgd s y t ho b e i z size bytes hu hi hz hsize hby hzs hsz v l.length xs hs hown ⟨G,0,none⟩ 1 cap c hy (by simp [hlen]) (fun j u hj=> ?_) (hE.one hm) (by omega) (by simp [maxLen];omega) ?_ hb _ rfl fun g cp w1 h1 h2 h3 h4=> ?_
  · have:=cell_of_heap hG j
    have e1:(⟨G,0,none⟩:Addr).add j=⟨G,j,none⟩:=by simp [Addr.add];intro h;rw [h]
    rw [e1,this];simpa using hj
  · exact Nat.le_trans (Nat.mul_le_mul (show l.length+1≤400001 by omega) hbb) (by decide)
  · obtain ⟨q1,fl,q2,q3⟩:=own_grown hE hown ht hx hm hd hS hT h1 h2 h3 h4
    exact h _ _ fl q2 q3 q1
end

/-! ### nodes as elements -/
def NodeE(w:World)(S:Nat→Prop)(n:Node)(c:List Value):Prop:=c.length=5∧NodeR w S n (.agg c.toArray)
theorem nodeL:ElemL NodeE 5:={
  keep:=fun h hk hf hS=>⟨h.1,h.2.keep hk hf hS⟩
  len:=fun h=>h.1
  one:=fun {w S a c} h u hu=>by
    obtain ⟨tx,nm,k,l,cap,re,im,hv,-,-⟩:=h.2.shape
    have hc:c= [.int .i64 a.kind,.string tx,.float .f64 nm,.slice k l cap,.complex .f64 re im]:=by simpa using hv
    subst hc
    simp at hu
    rcases hu with rfl|rfl|rfl|rfl|rfl<;>rfl
  }
theorem elems_row{w:World}{S:Nat→Prop}{g:Nat}{ns:List Node}{xs:List Value}(h:Elems (NodeE w S) ns xs):∀o,(∀j u,xs[j]? =some u→w.cell? ⟨g,o+j,none⟩=some u)→RowR w S g o ns:=by
  induction h with
  |nil=>intro o _;exact .nil
  | cons hn _ ih=>
    intro o hc
    obtain ⟨h5,hr⟩:=hn
    rename_i c ns xs _
    obtain ⟨c0,c1,c2,c3,c4,rfl⟩:∃c0 c1 c2 c3 c4,c= [c0,c1,c2,c3,c4]:=by
      match c,h5 with
      | [c0,c1,c2,c3,c4],_=>exact ⟨_,_,_,_,_,rfl⟩
    refine .cons hr (by simpa using hc 0 c0 rfl) (hc 1 c1 rfl) (hc 2 c2 rfl) (hc 3 c3 rfl) (hc 4 c4 rfl) (ih _ fun j u hj=> ?_)
    have:=hc (5+j) u (by rw [List.getElem?_append_right (by simp)];simpa using hj)
    rwa [←Nat.add_assoc] at this
theorem kids_of_own{w:World}{b:Nat}{T:Nat→Prop}{ns:List Node}{v:Value}(h:OwnL NodeE 58 5 w b T ns v):KidsR w T ns v:=by
  obtain ⟨xs,ho,ht,hx⟩:=h
  rcases ho.2 with ⟨rfl,hn⟩|⟨g,cap,cur,rfl,hb,hg,h1,h2,h3,h4⟩
  · cases ns with
    |nil=>exact .nil
    |cons n ns=>simp at hn
  · cases ns with
    |nil=>exact .nil
    | cons n ns=>
      refine .some (ht g rfl) (h_lt hg) (elems_row (hx.mono fun a c h=>nodeL.keep h (Keeps.refl [] w) (by simp) fun _ h=>h.1) 0 fun j u hj=> ?_)
      rw [cell_of_heap hg,←h4] at*
      rw [Nat.zero_add]
      have hj2:(cur.toList.take ((n::ns).length*5))[j]? =some u:=hj
      rw [List.getElem?_take] at hj2
      split at hj2
      · simpa using hj2
      · cases hj2
theorem info50:∃i,Tryz.prog.info? 58=some i∧i.zero=some (.agg #[.int .i64 0,.string ⟨#[]⟩,.float .f64 0,.slice none 0 0,.complex .f64 0 0])∧i.size=5∧i.bytes=72:=by
  have h:(Tryz.prog.info? 58).map (fun i=>(i.zero,i.size,i.bytes))=some (some (.agg #[.int .i64 0,.string ⟨#[]⟩,.float .f64 0,.slice none 0 0,.complex .f64 0 0]),5,72):=by kernel_rfl
  cases hi:Tryz.prog.info? 58 with
  |none=>rw [hi] at h;cases h
  |some i=>rw [hi] at h;simp at h;exact ⟨i,rfl,h.1,h.2.1,h.2.2⟩
end Go.Proofs.YteafcepaolofpaaGreatDoor
end
section
/- list, walked. Made by a program (parse.py, walk.py). -/
namespace Go.Proofs.YteafcepaolofpaaGreatDoor
open Go.RowKit

theorem isF_any{s:ByteArray}{p:Nat}{st:PSt}{w:World}(h:PP s p st w){x:ByteArray}{b:Bool}(hx:isF s st x=some b):
    Calls Tryz.prog 79 #[.pointer (some ⟨p,0,none⟩),.string x] w fun r w'=>r= .returned (.bool b)∧Keeps [] w w':=by
  unfold isF at hx
  cases ht:nextF s st.pos false with
  |none=>rw [ht] at hx;simp at hx
  | some t=>
    rw [ht] at hx
    simp only [Option.bind_eq_bind,Option.bind_some,Option.some.injEq] at hx
    subst hx
    exact is_any h ht x
end Go.Proofs.YteafcepaolofpaaGreatDoor
end
section
/- inside, walked. Made by a program (parse.py, walk.py). -/
namespace Go.Proofs.YteafcepaolofpaaGreatDoor
open Go.RowKit

end Go.Proofs.YteafcepaolofpaaGreatDoor
end
