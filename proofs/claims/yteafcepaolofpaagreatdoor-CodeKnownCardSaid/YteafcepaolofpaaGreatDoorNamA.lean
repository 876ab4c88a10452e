/- Texts of this claim, joined: PrgD, PrgE, NamA. -/
import Derived.Test.YteafcepaolofpaaGreatDoorPrgR
import Derived.Test.YteafcepaolofpaaGreatDoorReA
set_option maxRecDepth 100000
set_option maxHeartbeats 4000000
set_option linter.unusedSimpArgs false
set_option linter.unusedVariables false
set_option linter.unusedSectionVars false
section
/- What a function's and a rule's plain parse says, item does. -/
namespace Go.Proofs.YteafcepaolofpaaGreatDoor
open Go.RowKit

theorem ruleF_calls{s:ByteArray}{p k:Nat}{st st2:PSt}{f:RuleP}(hx:ruleF s (parN s k) st=some (f,st2))(w:World)(h:PP s p st w):
    Calls Tryz.prog 81 #[.pointer (some ⟨p,0,none⟩)] w fun r w'=>∃v,r= .returned (.tuple #[v,.bool true])∧RuleV w' (fun g=>w.heap.size≤g) f v∧PP s p st2 w'∧Keeps [p] w w':=by
  simp only [ruleF,Option.bind_eq_bind,Option.bind_eq_some_iff,Prod.exists] at hx
  obtain ⟨t0,re,im,h0,b,st1,h1,hx⟩:=hx
  obtain ⟨ht0,rfl,rfl⟩:=hereF_some h0
  obtain ⟨kd0,tx0,nm0,fr0,te0⟩:=t0
  cases b with
  | true=>
    simp only [if_true,Option.bind_eq_some_iff,Prod.exists,Option.some.injEq,Prod.mk.injEq] at hx
    obtain ⟨n,st3,h3,rfl,rfl⟩:=hx
    exact rule_begin ht0 h1 (parN_hands k .block _ _ _ h3) w h
  | false=>
    obtain ⟨rfl,hn⟩:=take_false h1
    simp only [Bool.false_eq_true,if_false,Option.bind_eq_some_iff,Prod.exists] at hx
    obtain ⟨_,h2,_,h3,_,h4,c,h5,hx⟩:=hx
    cases c with
    | true=>
      simp only [if_true,Option.bind_eq_some_iff,Prod.exists,Option.some.injEq,Prod.mk.injEq] at hx
      obtain ⟨n,st3,h6,rfl,rfl⟩:=hx
      exact rule_always ht0 hn h2 h3 h4 h5 (parN_hands k .block _ _ _ h6) w h
    | false=>
      simp only [Bool.false_eq_true,if_false,Option.bind_eq_some_iff,Prod.exists] at hx
      obtain ⟨m,st3,h6,_,h7,d,h8,hx⟩:=hx
      cases d with
      | true=>
        simp only [if_true,Option.bind_eq_some_iff,Prod.exists,Option.some.injEq,Prod.mk.injEq] at hx
        obtain ⟨n,st4,h9,rfl,rfl⟩:=hx
        exact rule_when ht0 hn h2 h3 h4 h5 (parN_hands k .expr _ _ _ h6) h7 h8 (parN_hands k .block _ _ _ h9) w h
      |false=>simp at hx

/-- A program read. -/
def ProgV(w:World)(S:Nat→Prop)(g:ProgP)(v:Value):Prop:=
  ∃pa pc qa qc,v= .agg #[.slice pa g.rules.length pc,.slice qa g.funcs.length qc]∧SliceR RuleE w S g.rules (.slice pa g.rules.length pc)∧SliceR FuncE w S g.funcs (.slice qa g.funcs.length qc)
theorem ProgV.kp{w w':World}{S:Nat→Prop}{fp:List Nat}{g:ProgP}{v:Value}(h:ProgV w S g v)(hk:Keeps fp w w')(hf:∀x∈fp,¬S x):ProgV w' S g v:=by
  obtain ⟨pa,pc,qa,qc,h,h1,h2⟩:=h
  exact ⟨pa,pc,qa,qc,h,h1.kp ruleL hk hf,h2.kp funcL hk hf⟩
/-- An item of a program. -/
theorem item_any{s:ByteArray}{p gb k:Nat}{w wi:World}{st st2:PSt}{rs:List RuleP}{fs:List FuncP}{g2:ProgP}(hlen:rs.length+fs.length≤1000)(g_0:13<w.heap.size)(hi:ProgI s p gb w rs fs st wi)
    (hx :(do
      let b ←isF s st (bs [102,117,110,99,116,105,111,110])
      if b then do
        let (x,st) ←functionF s (parN s k) st
        some ((⟨rs,fs++ [x]⟩:ProgP),st)
      else do
        let (x,st) ←ruleF s (parN s k) st
        some ((⟨rs++ [x],fs⟩:ProgP),st))=some (g2,st2)):
    Calls Tryz.prog 50 #[.pointer (some ⟨p,0,none⟩),.pointer (some ⟨gb,0,none⟩)] wi fun r w'=>r= .returned (.tuple #[])∧ProgI s p gb w g2.rules g2.funcs st2 w':=by
  simp only [Option.bind_eq_bind,Option.bind_eq_some_iff] at hx
  obtain ⟨b,hb,hx⟩:=hx
  cases b with
  | true=>
    simp only [if_true,Option.bind_eq_some_iff,Prod.exists,Option.some.injEq,Prod.mk.injEq] at hx
    obtain ⟨f,st3,h3,rfl,rfl⟩:=hx
    cases h3
  | false=>
    simp only [Bool.false_eq_true,if_false,Option.bind_eq_some_iff,Prod.exists,Option.some.injEq,Prod.mk.injEq] at hx
    obtain ⟨f,st3,h3,rfl,rfl⟩:=hx
    exact item_r hb (ruleF_calls h3) (by omega) g_0 hi
end Go.Proofs.YteafcepaolofpaaGreatDoor
end
section
/- Parse, walked. Made by a program (parse.py, walk.py). -/
namespace Go.Proofs.YteafcepaolofpaaGreatDoor
open Go.RowKit

/-- Parse's loop. -/
def ParseI(s:ByteArray)(p gb:Nat)(w:World)(rec:Rec)(g':ProgP)(g:Nat)(W:World):Prop:=
  ∃(rs:List RuleP) (fs:List FuncP) (st:PSt),itemsF s rec g ⟨rs,fs⟩ st=some g'∧rs.length+fs.length+g≤100∧ProgI s p gb w rs fs st W
theorem itemsF_succ{s:ByteArray}{rec:Rec}{f:Nat}{rs:List RuleP}{fs:List FuncP}{st:PSt}{g':ProgP}(h:itemsF s rec (f+1) ⟨rs,fs⟩ st=some g'):∃st1 t,linesA s st (bs [59])=some st1∧nextF s st1.pos true=some t∧
    ((t.kind=0∧g'=⟨rs,fs⟩)∨(t.kind≠0∧∃g2 st2,(do
      let b ←isF s st1 (bs [102,117,110,99,116,105,111,110])
      if b then do
        let (x,st) ←functionF s rec st1
        some ((⟨rs,fs++ [x]⟩:ProgP),st)
      else do
        let (x,st) ←ruleF s rec st1
        some ((⟨rs++ [x],fs⟩:ProgP),st))=some (g2,st2)∧g2.rules.length+g2.funcs.length=rs.length+fs.length+1∧itemsF s rec f g2 st2=some g')):=by
  rw [itemsF] at h
  simp only [Option.bind_eq_bind,Option.bind_eq_some_iff] at h
  obtain ⟨st1,h1,t,h2,h⟩:=h
  refine ⟨st1,t,h1,h2, ?_⟩
  by_cases h0:t.kind=0
  · rw [if_pos h0] at h
    exact .inl ⟨h0,(Option.some.inj h).symm⟩
  · rw [if_neg h0] at h
    simp only [Option.bind_eq_some_iff] at h
    obtain ⟨b,h3,h⟩:=h
    refine .inr ⟨h0, ?_⟩
    cases b with
    | true=>
      simp only [if_true,Option.bind_eq_some_iff,Prod.exists] at h
      obtain ⟨x,st3,h4,h⟩:=h
      exact ⟨_,_,by simp [h3,h4],by simp;omega,h⟩
    | false=>
      simp only [Bool.false_eq_true,if_false,Option.bind_eq_some_iff,Prod.exists] at h
      obtain ⟨x,st3,h4,h⟩:=h
      exact ⟨_,_,by simp [h3,h4],by simp;omega,h⟩

theorem parse_any{s:ByteArray}{g':ProgP}{w:World}(hg:Gl w)(hx:parseF s=some g'):
    Calls Tryz.prog 18 #[.string s] w fun r w'=>∃v,r= .returned (.tuple #[v,.complex .f64 0 0,.int .i64 0])∧ProgV w' (fun g=>w.heap.size≤g) g' v∧Keeps [] w w':=by
  unfold parseF at hx
  split at hx
  rotate_left
  · cases hx
  rename_i hsz
  have hsz2:(s.size:Int)≤4096:=by omega
  have g_00:=hg.2.2
  have HG0:=Lib.hid hg;have HG:=Lib.hid hx;have HK0:=Lib.hid (Keeps.refl [] w)
  clear hg hx
  go_enter Tryz.func18,Tryz.ntmps18
  go_upto_region 3 with fail
  refine wp_at (fun W=>Keeps [] w W∧W.heap[w.heap.size]? =some (.cells #[.slice none 0 0,.slice none 0 0] 32 (0,0))) ⟨(by with_reducible repeat (first|exact k0 _ _|refine kA ?_ _|refine kD ?_|refine kS ?_ (by simp)|refine kM ?_ (by simp))),(by simp only [hS,hA,hD,hM,World.size_setCell,World.size_drew,reduceIte,Option.map_some,Obj.put]<;>rfl)⟩ ?_
  rintro w1 ⟨Kw1,cw1_R⟩
  have o_R:w.heap.size≤w.heap.size:=Nat.le_refl _
  have HKw1:=Lib.hid (HK0.out.trans Kw1 (by simp))
  have Rw1_R:=Lib.hid cw1_R
  clear Kw1 cw1_R HK0
  have HGl:=Lib.hid (HG0.out.keep HKw1.out (by simp))
  have HK1:=Lib.hid (Keeps.refl [] w1)
  have g_0:13<w1.heap.size:=Nat.lt_of_lt_of_le g_00 HKw1.out.size
  have HR1:=Lib.hid Rw1_R.out
  have l_R:=h_lt Rw1_R.out
  have l_R_1:w.heap.size<w1.heap.size+1:=Nat.lt_add_right 1 l_R
  go_wp2_with fail
  refine wp_at (fun W=>Keeps [] w1 W∧W.heap[w1.heap.size]? =some (.cells #[.string s,.int .i64 0,.int .i64 0,.bool false,.int .i64 0,.complex .f64 0 0] 106 (0,0))∧W.heap[w1.heap.size+1]? =some (.cells #[.slice none 0 0,.slice none 0 0] 32 (0,0))) ⟨(by with_reducible repeat (first|exact k0 _ _|refine kA ?_ _|refine kD ?_|refine kS ?_ (by simp)|refine kM ?_ (by simp))),(by simp only [hS,hA,hD,hM,World.size_alloc,World.size_setCell,World.size_drew,size_mset,Nat.add_right_cancel_iff,Nat.left_eq_add,Nat.add_eq_left,Nat.reduceEqDiff,Nat.add_assoc,Nat.reduceAdd,Nat.one_ne_zero,Nat.zero_ne_one,reduceIte,Option.map_some,Obj.put]<;>rfl),(by simp only [hS,hA,hD,hM,World.size_alloc,World.size_setCell,World.size_drew,size_mset,Nat.add_right_cancel_iff,Nat.left_eq_add,Nat.add_eq_left,Nat.reduceEqDiff,Nat.add_assoc,Nat.reduceAdd,Nat.one_ne_zero,Nat.zero_ne_one,reduceIte,Option.map_some,Obj.put]<;>rfl)⟩ ?_
  rintro w21 ⟨Kw21,cw21_p,cw21_g⟩
  have n_R_p:w.heap.size≠w1.heap.size:=Nat.ne_of_lt l_R
  have n_p_R:w1.heap.size≠w.heap.size:=Nat.ne_of_gt l_R
  have o_p:w1.heap.size≤w1.heap.size:=Nat.le_refl _
  have n_R_g:w.heap.size≠w1.heap.size+1:=Nat.ne_of_lt (Nat.lt_add_right 1 l_R)
  have n_g_R:w1.heap.size+1≠w.heap.size:=Nat.ne_of_gt (Nat.lt_add_right 1 l_R)
  have n_p_g:w1.heap.size≠w1.heap.size+1:=by simp
  have n_g_p:w1.heap.size+1≠w1.heap.size:=by simp
  have o_g:w1.heap.size≤w1.heap.size+1:=Nat.le_trans (Nat.le_refl _) (Nat.le_add_right _ 1)
  have Rw21_R:=Lib.hid (Kw21.at Rw1_R.out (by simp))
  have HKw21:=Lib.hid (HK1.out.trans Kw21 (by simp))
  have Rw21_p:=Lib.hid cw21_p
  have Rw21_g:=Lib.hid cw21_g
  clear Kw21 cw21_p cw21_g l_R l_R_1 Rw1_R HK1
  have hpp:PP s (w1.heap.size) ⟨0,0,false⟩ w21:=⟨HGl.out.keep (fp:= []) HKw21.out (by simp),Rw21_p.out,g_0,hsz,Nat.zero_le _,by decide⟩
  go_loopg [] 50 (fun g wr=>ParseI s (w1.heap.size) (w1.heap.size+1) w1 (parN s 100) g' g wr)
  case atStart=>exact ⟨[],[],⟨0,0,false⟩,HG.out,by simp,_,_,fun _=>False,fun _=>False,0,OwnL.nil,OwnL.nil,fun _ h=>h.elim,fun _ h=>h.elim,Nat.zero_le _,fun _ h=>h.elim,fun _ h=>h.elim,fun _ h=>h.elim,fun h=>h,fun h=>h,fun h=>h,fun h=>h,n_p_g,o_p,o_g,hpp,HKw21.out,Rw21_g.out⟩
  clear HG hpp
  case round=>
    obtain ⟨rs,fs,st1,hG,hlen,v1,v2,T1,T2,U,h1,h2,up_x,up_y,us_x,dn_x,dn_y,dj_x_y,ns_x_p,ns_y_p,ns_x_g,ns_y_g,n_p_g,o_p,o_g,hp,hk,hg⟩:=hrel
    obtain ⟨a1,c1,rfl,-⟩:=h1.slice
    obtain ⟨a2,c2,rfl,-⟩:=h2.slice
    have us_y:=us_x
    have n_g_p:=Ne.symm n_p_g
    have l_R1:w.heap.size<w1.heap.size:=h_lt HR1.out
    have n_R_p:w.heap.size≠w1.heap.size:=Nat.ne_of_lt (Nat.lt_of_lt_of_le l_R1 o_p)
    have n_p_R:=Ne.symm n_R_p
    have n_R_g:w.heap.size≠w1.heap.size+1:=Nat.ne_of_lt (Nat.lt_of_lt_of_le l_R1 o_g)
    have n_g_R:=Ne.symm n_R_g
    have ns_x_R:¬T1 w.heap.size:=fun h=>Nat.not_lt_of_le (dn_x _ h) l_R1
    have ns_y_R:¬T2 w.heap.size:=fun h=>Nat.not_lt_of_le (dn_y _ h) l_R1
    have g_p:13<w1.heap.size:=hp.p
    have g_g:13<w1.heap.size+1:=Nat.lt_of_lt_of_le g_0 o_g
    have g_R:13<w.heap.size:=g_00
    have HX1:=Lib.hid h1;have HY1:=Lib.hid h2;have HPr:=Lib.hid hp;have HKr:=Lib.hid hk;have Rg:=Lib.hid hg
    have RR:=Lib.hid (hk.at HR1.out (by simp))
    have HKr2:=Lib.hid (hk.weaken (fp':= [w.heap.size]) (by simp))
    clear h1 h2 hp hk hg
    cases gk with
    |zero=>simp [itemsF] at hG
    | succ f=>
      obtain ⟨st2,t,hl,ht,hG⟩:=itemsF_succ hG
      obtain ⟨kd,tx,nm,fr,te⟩:=t
      have HL:Hid (linesF s ⟨#[59]⟩ (s.size+2) st1=some st2):=Lib.hid hl
      have HT:=Lib.hid ht
      clear hl ht
      rcases hG with ⟨h0,rfl⟩|⟨h0,g2,st3,hi,hl2,hG⟩
      · simp only at h0
        subst h0
        have l_p:=h_lt HPr.out.row
        have l_g:=h_lt Rg.out
        have l_R:=h_lt RR.out
        go_wp2_with fail
        clear l_p l_g l_R
        refine (ok_any HPr.out).mono ?_
        rintro r w' ⟨rfl,hw'⟩
        rw [hw']
        clear hw'
        have l_p:=h_lt HPr.out.row
        have l_g:=h_lt Rg.out
        have l_R:=h_lt RR.out
        go_wp2_with fail
        clear l_p l_g l_R
        refine (lines_any HPr.out HL.out).mono ?_
        rintro r e51 ⟨rfl,hp,hk⟩
        have Re51_g:=Lib.hid (hk.at Rg.out (by simp [n_g_p]))
        have Re51_R:=Lib.hid (hk.at RR.out (by simp [n_R_p]))
        have HKe51:=Lib.hid (HKr2.out.trans hk (by simp [o_p]))
        have xe51:=Lib.hid (OwnL.kp ruleL HX1.out hk (by simp [ns_x_p]))
        have us_xe51:=Nat.le_trans us_x hk.size
        have ye51:=Lib.hid (OwnL.kp funcL HY1.out hk (by simp [ns_y_p]))
        have us_ye51:=Nat.le_trans us_y hk.size
        have HPne51:=Lib.hid hp
        clear hp
        clear hk Rg RR HKr2 HX1 us_x HY1 us_y HPr
        have l_p:=h_lt HPne51.out.row
        have l_g:=h_lt Re51_g.out
        have l_R:=h_lt Re51_R.out
        go_wp2_with fail
        clear l_p l_g l_R
        refine (see_any HPne51.out HT.out).mono ?_
        rintro r e52 ⟨rfl,hk⟩
        have Re52_g:=Lib.hid (hk.at Re51_g.out (by simp))
        have Re52_R:=Lib.hid (hk.at Re51_R.out (by simp))
        have HKe52:=Lib.hid (HKe51.out.trans hk (by simp))
        have HPe52:=Lib.hid (HPne51.out.keep hk)
        have xe52:=Lib.hid (OwnL.kp ruleL xe51.out hk (by simp))
        have us_xe52:=Nat.le_trans us_xe51 hk.size
        have ye52:=Lib.hid (OwnL.kp funcL ye51.out hk (by simp))
        have us_ye52:=Nat.le_trans us_ye51 hk.size
        clear hk Re51_g Re51_R HKe51 HPne51 xe51 us_xe51 ye51 us_ye51
        have l_p:=h_lt HPe52.out.row
        have l_g:=h_lt Re52_g.out
        have l_R:=h_lt Re52_R.out
        go_wp2_with fail
        refine calls_at (fun W=>Keeps [] e52 W∧W.heap[e52.heap.size]? =some (.cells #[.int .i64 0,.string tx,.float .f64 nm,.int .i64 fr,.int .i64 te] 109 (0,0))) ⟨(by with_reducible repeat (first|exact k0 _ _|refine kA ?_ _|refine kD ?_|refine kS ?_ (by simp)|refine kM ?_ (by simp))),(by simp only [hS,hA,hD,hM,World.size_setCell,World.size_drew,reduceIte,Option.map_some,Obj.put]<;>rfl)⟩ ?_
        rintro w53 ⟨Kw53,cw53_T⟩
        have n_p_T:w1.heap.size≠e52.heap.size:=Nat.ne_of_lt l_p
        have n_T_p:e52.heap.size≠w1.heap.size:=Nat.ne_of_gt l_p
        have n_g_T:w1.heap.size+1≠e52.heap.size:=Nat.ne_of_lt l_g
        have n_T_g:e52.heap.size≠w1.heap.size+1:=Nat.ne_of_gt l_g
        have n_R_T:w.heap.size≠e52.heap.size:=Nat.ne_of_lt l_R
        have n_T_R:e52.heap.size≠w.heap.size:=Nat.ne_of_gt l_R
        have o_T:w1.heap.size≤e52.heap.size:=HKe52.out.size
        have g_T:13<e52.heap.size:=Nat.lt_trans g_p l_p
        have ns_x_T:¬(T1) (e52.heap.size):=fun h=>Nat.not_lt_of_le (us_xe52) (up_x _ h)
        have ns_y_T:¬(T2) (e52.heap.size):=fun h=>Nat.not_lt_of_le (us_ye52) (up_y _ h)
        have Rw53_g:=Lib.hid (Kw53.at Re52_g.out (by simp))
        have Rw53_R:=Lib.hid (Kw53.at Re52_R.out (by simp))
        have HKw53:=Lib.hid (HKe52.out.trans Kw53 (by simp))
        have HPw53:=Lib.hid (HPe52.out.keep Kw53)
        have xw53:=Lib.hid (OwnL.kp ruleL xe52.out Kw53 (by simp))
        have us_xw53:=Nat.le_trans us_xe52 Kw53.size
        have yw53:=Lib.hid (OwnL.kp funcL ye52.out Kw53 (by simp))
        have us_yw53:=Nat.le_trans us_ye52 Kw53.size
        have Rw53_T:=Lib.hid cw53_T
        clear Kw53 cw53_T l_p l_g l_R Re52_g Re52_R HKe52 HPe52 xe52 us_xe52 ye52 us_ye52
        refine (ok_any HPw53.out).mono ?_
        rintro r w' ⟨rfl,hw'⟩
        rw [hw']
        clear hw'
        have l_p:=h_lt HPw53.out.row
        have l_g:=h_lt Rw53_g.out
        have l_R:=h_lt Rw53_R.out
        obtain ⟨l_T,xT_0,xT_1,xT_2,xT_3,xT_4,yT_0,yT_1,yT_2,yT_3,yT_4⟩:=cf5 Rw53_T.out
        go_wp2_with fail
        clear l_p l_g l_R l_T xT_0 xT_1 xT_2 xT_3 xT_4 yT_0 yT_1 yT_2 yT_3 yT_4
        refine (ok_any HPw53.out).mono ?_
        rintro r w' ⟨rfl,hw'⟩
        rw [hw']
        clear hw'
        have l_p:=h_lt HPw53.out.row
        obtain ⟨l_g,xg_0,xg_1,yg_0,yg_1⟩:=cf2 Rw53_g.out
        obtain ⟨l_R,xR_0,xR_1,yR_0,yR_1⟩:=cf2 Rw53_R.out
        have l_T:=h_lt Rw53_T.out
        go_wp2_with fail
        refine ret_at (v:= .tuple #[.agg #[.slice a1 rs.length c1,.slice a2 fs.length c2],.complex .f64 0 0,.int .i64 0]) (fun W=>Keeps [w.heap.size] w53 W∧W.heap[w.heap.size]? =some (.cells #[.slice a1 rs.length c1,.slice a2 fs.length c2] 32 (0,0))) ⟨(by with_reducible repeat (first|exact k0 _ _|refine kA ?_ _|refine kD ?_|refine kS ?_ (by simp)|refine kM ?_ (by simp))),(by simp only [hS,hA,hD,hM,reduceIte,Option.map_some,Obj.put,Rw53_R.out,Nat.ne_of_lt l_R,Nat.ne_of_gt l_R]<;>rfl)⟩ (fun w54 hW=> ?_) rfl (fun w54 hW=> ?_)
        · obtain ⟨Kw54,cw54_R⟩:=hW
          have q0:=cell_of_heap cw54_R 0
          have q1:=cell_of_heap cw54_R 1
          simp at q0 q1
          simp [results,Tryz.results18,go_sem,q0,q1]
        · obtain ⟨Kw54,cw54_R⟩:=hW
          have Rw54_g:=Lib.hid (Kw54.at Rw53_g.out (by simp [n_g_R]))
          have Rw54_T:=Lib.hid (Kw54.at Rw53_T.out (by simp [n_T_R]))
          have HKw54:=Lib.hid (HKw53.out.trans Kw54 (by simp))
          have HPw54:=Lib.hid (HPw53.out.keepN Kw54 (by simp [n_p_R]) (by simp [g_R]))
          have xw54:=Lib.hid (OwnL.kp ruleL xw53.out Kw54 (by simp [ns_x_R]))
          have us_xw54:=Nat.le_trans us_xw53 Kw54.size
          have yw54:=Lib.hid (OwnL.kp funcL yw53.out Kw54 (by simp [ns_y_R]))
          have us_yw54:=Nat.le_trans us_yw53 Kw54.size
          have Rw54_R:=Lib.hid cw54_R
          clear Kw54 cw54_R l_p l_g xg_0 xg_1 yg_0 yg_1 l_R xR_0 xR_1 yR_0 yR_1 l_T Rw53_g Rw53_T HKw53 HPw53 xw53 us_xw53 yw53 us_yw53 Rw53_R
          exact ⟨_,rfl,⟨_,_,_,_,rfl,(sliceR_of_own ruleL xw54.out).to ruleL (fun x h=>Nat.le_trans HKw1.out.size (dn_x x h)),(sliceR_of_own funcL yw54.out).to funcL (fun x h=>Nat.le_trans HKw1.out.size (dn_y x h))⟩,(HKw1.out).trans (fp':= [w.heap.size]) HKw54.out (by simp)⟩
      · have n0:(kd==0)=false:=beq_false_of_ne h0
        have HI:=Lib.hid hi;have HF:=Lib.hid hG
        have hlen2:rs.length+fs.length≤1000:=by omega
        have hlen3:=Lib.hid (show g2.rules.length+g2.funcs.length+f≤100 by omega)
        clear hi hG hl2 h0
        have l_p:=h_lt HPr.out.row
        have l_g:=h_lt Rg.out
        have l_R:=h_lt RR.out
        go_wp2_with fail
        clear l_p l_g l_R
        refine (ok_any HPr.out).mono ?_
        rintro r w' ⟨rfl,hw'⟩
        rw [hw']
        clear hw'
        have l_p:=h_lt HPr.out.row
        have l_g:=h_lt Rg.out
        have l_R:=h_lt RR.out
        go_wp2_with fail
        clear l_p l_g l_R
        refine (lines_any HPr.out HL.out).mono ?_
        rintro r e51 ⟨rfl,hp,hk⟩
        have Re51_g:=Lib.hid (hk.at Rg.out (by simp [n_g_p]))
        have Re51_R:=Lib.hid (hk.at RR.out (by simp [n_R_p]))
        have HKe51:=Lib.hid (HKr.out.trans hk (by simp [o_p]))
        have xe51:=Lib.hid (OwnL.kp ruleL HX1.out hk (by simp [ns_x_p]))
        have us_xe51:=Nat.le_trans us_x hk.size
        have ye51:=Lib.hid (OwnL.kp funcL HY1.out hk (by simp [ns_y_p]))
        have us_ye51:=Nat.le_trans us_y hk.size
        have HPne51:=Lib.hid hp
        clear hp
        clear hk Rg RR HKr HX1 us_x HY1 us_y HPr
        have l_p:=h_lt HPne51.out.row
        have l_g:=h_lt Re51_g.out
        have l_R:=h_lt Re51_R.out
        go_wp2_with fail
        clear l_p l_g l_R
        refine (see_any HPne51.out HT.out).mono ?_
        rintro r e52 ⟨rfl,hk⟩
        have Re52_g:=Lib.hid (hk.at Re51_g.out (by simp))
        have Re52_R:=Lib.hid (hk.at Re51_R.out (by simp))
        have HKe52:=Lib.hid (HKe51.out.trans hk (by simp))
        have HPe52:=Lib.hid (HPne51.out.keep hk)
        have xe52:=Lib.hid (OwnL.kp ruleL xe51.out hk (by simp))
        have us_xe52:=Nat.le_trans us_xe51 hk.size
        have ye52:=Lib.hid (OwnL.kp funcL ye51.out hk (by simp))
        have us_ye52:=Nat.le_trans us_ye51 hk.size
        clear hk Re51_g Re51_R HKe51 HPne51 xe51 us_xe51 ye51 us_ye51
        have l_p:=h_lt HPe52.out.row
        have l_g:=h_lt Re52_g.out
        have l_R:=h_lt Re52_R.out
        go_wp2_with fail
        refine calls_at (fun W=>Keeps [] e52 W∧W.heap[e52.heap.size]? =some (.cells #[.int .i64 kd,.string tx,.float .f64 nm,.int .i64 fr,.int .i64 te] 109 (0,0))) ⟨(by with_reducible repeat (first|exact k0 _ _|refine kA ?_ _|refine kD ?_|refine kS ?_ (by simp)|refine kM ?_ (by simp))),(by simp only [hS,hA,hD,hM,World.size_setCell,World.size_drew,reduceIte,Option.map_some,Obj.put]<;>rfl)⟩ ?_
        rintro w53 ⟨Kw53,cw53_T⟩
        have n_p_T:w1.heap.size≠e52.heap.size:=Nat.ne_of_lt l_p
        have n_T_p:e52.heap.size≠w1.heap.size:=Nat.ne_of_gt l_p
        have n_g_T:w1.heap.size+1≠e52.heap.size:=Nat.ne_of_lt l_g
        have n_T_g:e52.heap.size≠w1.heap.size+1:=Nat.ne_of_gt l_g
        have n_R_T:w.heap.size≠e52.heap.size:=Nat.ne_of_lt l_R
        have n_T_R:e52.heap.size≠w.heap.size:=Nat.ne_of_gt l_R
        have o_T:w1.heap.size≤e52.heap.size:=HKe52.out.size
        have g_T:13<e52.heap.size:=Nat.lt_trans g_p l_p
        have ns_x_T:¬(T1) (e52.heap.size):=fun h=>Nat.not_lt_of_le (us_xe52) (up_x _ h)
        have ns_y_T:¬(T2) (e52.heap.size):=fun h=>Nat.not_lt_of_le (us_ye52) (up_y _ h)
        have Rw53_g:=Lib.hid (Kw53.at Re52_g.out (by simp))
        have Rw53_R:=Lib.hid (Kw53.at Re52_R.out (by simp))
        have HKw53:=Lib.hid (HKe52.out.trans Kw53 (by simp))
        have HPw53:=Lib.hid (HPe52.out.keep Kw53)
        have xw53:=Lib.hid (OwnL.kp ruleL xe52.out Kw53 (by simp))
        have us_xw53:=Nat.le_trans us_xe52 Kw53.size
        have yw53:=Lib.hid (OwnL.kp funcL ye52.out Kw53 (by simp))
        have us_yw53:=Nat.le_trans us_ye52 Kw53.size
        have Rw53_T:=Lib.hid cw53_T
        clear Kw53 cw53_T l_p l_g l_R Re52_g Re52_R HKe52 HPe52 xe52 us_xe52 ye52 us_ye52
        refine (ok_any HPw53.out).mono ?_
        rintro r w' ⟨rfl,hw'⟩
        rw [hw']
        clear hw'
        have l_p:=h_lt HPw53.out.row
        have l_g:=h_lt Rw53_g.out
        have l_R:=h_lt Rw53_R.out
        obtain ⟨l_T,xT_0,xT_1,xT_2,xT_3,xT_4,yT_0,yT_1,yT_2,yT_3,yT_4⟩:=cf5 Rw53_T.out
        go_wp2_with fail
        clear l_p l_g l_R l_T xT_0 xT_1 xT_2 xT_3 xT_4 yT_0 yT_1 yT_2 yT_3 yT_4
        refine (item_any (k:=100) hlen2 g_0 ⟨_,_,T1,T2,w53.heap.size,xw53.out,yw53.out,fun x h=>Nat.lt_of_lt_of_le (up_x x h) us_xw53,fun x h=>Nat.lt_of_lt_of_le (up_y x h) us_yw53,Nat.le_refl _,dn_x,dn_y,dj_x_y,ns_x_p,ns_y_p,ns_x_g,ns_y_g,n_p_g,o_p,o_g,HPw53.out,HKw53.out,Rw53_g.out⟩ HI.out).mono ?_
        rintro r e99 ⟨rfl,hpi⟩
        have HPI:=Lib.hid hpi
        clear hpi
        go_wp2_with fail
        go_roundg f
        case measure=>omega
        case rel=>exact ⟨_,_,_,HF.out,hlen3.out,HPI.out⟩
end Go.Proofs.YteafcepaolofpaaGreatDoor
end
section
/- IsSpecial, counts, walked. Made by a program (check.py, walk.py). -/
namespace Go.Proofs.YteafcepaolofpaaGreatDoor
open Go.RowKit

theorem special_0(w:World):Calls Tryz.prog 65 #[.string ⟨#[78,82]⟩] w fun r w'=>r= .returned (.bool true)∧w'=w:=by
  go_enter Tryz.func65,Tryz.ntmps65
  go_wp2_with fail
  go_ret
  exact ⟨rfl,rfl⟩

theorem special_1(w:World):Calls Tryz.prog 65 #[.string ⟨#[78,70]⟩] w fun r w'=>r= .returned (.bool true)∧w'=w:=by
  go_enter Tryz.func65,Tryz.ntmps65
  go_wp2_with fail
  go_ret
  exact ⟨rfl,rfl⟩

theorem special_2(w:World):Calls Tryz.prog 65 #[.string ⟨#[70,83]⟩] w fun r w'=>r= .returned (.bool true)∧w'=w:=by
  go_enter Tryz.func65,Tryz.ntmps65
  go_wp2_with fail
  go_ret
  exact ⟨rfl,rfl⟩

theorem special_3(w:World):Calls Tryz.prog 65 #[.string ⟨#[79,70,83]⟩] w fun r w'=>r= .returned (.bool true)∧w'=w:=by
  go_enter Tryz.func65,Tryz.ntmps65
  go_wp2_with fail
  go_ret
  exact ⟨rfl,rfl⟩

theorem special_4(w:World):Calls Tryz.prog 65 #[.string ⟨#[79,82,83]⟩] w fun r w'=>r= .returned (.bool true)∧w'=w:=by
  go_enter Tryz.func65,Tryz.ntmps65
  go_wp2_with fail
  go_ret
  exact ⟨rfl,rfl⟩

theorem special_5(w:World):Calls Tryz.prog 65 #[.string ⟨#[82,83]⟩] w fun r w'=>r= .returned (.bool true)∧w'=w:=by
  go_enter Tryz.func65,Tryz.ntmps65
  go_wp2_with fail
  go_ret
  exact ⟨rfl,rfl⟩

theorem special_6(w:World):Calls Tryz.prog 65 #[.string ⟨#[83,85,66,83,69,80]⟩] w fun r w'=>r= .returned (.bool true)∧w'=w:=by
  go_enter Tryz.func65,Tryz.ntmps65
  go_wp2_with fail
  go_ret
  exact ⟨rfl,rfl⟩

theorem special_7(w:World):Calls Tryz.prog 65 #[.string ⟨#[67,79,78,86,70,77,84]⟩] w fun r w'=>r= .returned (.bool true)∧w'=w:=by
  go_enter Tryz.func65,Tryz.ntmps65
  go_wp2_with fail
  go_ret
  exact ⟨rfl,rfl⟩

theorem special_8(w:World):Calls Tryz.prog 65 #[.string ⟨#[79,70,77,84]⟩] w fun r w'=>r= .returned (.bool true)∧w'=w:=by
  go_enter Tryz.func65,Tryz.ntmps65
  go_wp2_with fail
  go_ret
  exact ⟨rfl,rfl⟩

theorem special_9(w:World):Calls Tryz.prog 65 #[.string ⟨#[82,83,84,65,82,84]⟩] w fun r w'=>r= .returned (.bool true)∧w'=w:=by
  go_enter Tryz.func65,Tryz.ntmps65
  go_wp2_with fail
  go_ret
  exact ⟨rfl,rfl⟩

theorem special_10(w:World):Calls Tryz.prog 65 #[.string ⟨#[82,76,69,78,71,84,72]⟩] w fun r w'=>r= .returned (.bool true)∧w'=w:=by
  go_enter Tryz.func65,Tryz.ntmps65
  go_wp2_with fail
  go_ret
  exact ⟨rfl,rfl⟩

theorem special_11(w:World):Calls Tryz.prog 65 #[.string ⟨#[78,79,87]⟩] w fun r w'=>r= .returned (.bool true)∧w'=w:=by
  go_enter Tryz.func65,Tryz.ntmps65
  go_wp2_with fail
  go_ret
  exact ⟨rfl,rfl⟩

theorem special_12(w:World):Calls Tryz.prog 65 #[.string ⟨#[71,65,80,83]⟩] w fun r w'=>r= .returned (.bool true)∧w'=w:=by
  go_enter Tryz.func65,Tryz.ntmps65
  go_wp2_with fail
  go_ret
  exact ⟨rfl,rfl⟩

theorem special_no(s:ByteArray)(h0:(s.toList== [78,82])=false)(h1:(s.toList== [78,70])=false)(h2:(s.toList== [70,83])=false)(h3:(s.toList== [79,70,83])=false)(h4:(s.toList== [79,82,83])=false)(h5:(s.toList== [82,83])=false)(h6:(s.toList== [83,85,66,83,69,80])=false)(h7:(s.toList== [67,79,78,86,70,77,84])=false)(h8:(s.toList== [79,70,77,84])=false)(h9:(s.toList== [82,83,84,65,82,84])=false)(h10:(s.toList== [82,76,69,78,71,84,72])=false)(h11:(s.toList== [78,79,87])=false)(h12:(s.toList== [71,65,80,83])=false)(w:World):Calls Tryz.prog 65 #[.string s] w fun r w'=>r= .returned (.bool false)∧w'=w:=by
  go_enter Tryz.func65,Tryz.ntmps65
  go_wp2_with fail
  go_ret
  exact ⟨rfl,rfl⟩
theorem same_lit{s:ByteArray}{l:List UInt8}(h:same s (bs l)=true):s=⟨l.toArray⟩:=same_iff.1 h
theorem special_any(s:ByteArray)(w:World):Calls Tryz.prog 65 #[.string s] w fun r w'=>r= .returned (.bool (specialF s))∧w'=w:=by
  unfold specialF specials
  simp only [memB]
  by_cases h0:same s (bs [78,82])=true
  · rw [if_pos h0,same_lit h0];exact special_0 w
  rw [if_neg h0]
  by_cases h1:same s (bs [78,70])=true
  · rw [if_pos h1,same_lit h1];exact special_1 w
  rw [if_neg h1]
  by_cases h2:same s (bs [70,83])=true
  · rw [if_pos h2,same_lit h2];exact special_2 w
  rw [if_neg h2]
  by_cases h3:same s (bs [79,70,83])=true
  · rw [if_pos h3,same_lit h3];exact special_3 w
  rw [if_neg h3]
  by_cases h4:same s (bs [79,82,83])=true
  · rw [if_pos h4,same_lit h4];exact special_4 w
  rw [if_neg h4]
  by_cases h5:same s (bs [82,83])=true
  · rw [if_pos h5,same_lit h5];exact special_5 w
  rw [if_neg h5]
  by_cases h6:same s (bs [83,85,66,83,69,80])=true
  · rw [if_pos h6,same_lit h6];exact special_6 w
  rw [if_neg h6]
  by_cases h7:same s (bs [67,79,78,86,70,77,84])=true
  · rw [if_pos h7,same_lit h7];exact special_7 w
  rw [if_neg h7]
  by_cases h8:same s (bs [79,70,77,84])=true
  · rw [if_pos h8,same_lit h8];exact special_8 w
  rw [if_neg h8]
  by_cases h9:same s (bs [82,83,84,65,82,84])=true
  · rw [if_pos h9,same_lit h9];exact special_9 w
  rw [if_neg h9]
  by_cases h10:same s (bs [82,76,69,78,71,84,72])=true
  · rw [if_pos h10,same_lit h10];exact special_10 w
  rw [if_neg h10]
  by_cases h11:same s (bs [78,79,87])=true
  · rw [if_pos h11,same_lit h11];exact special_11 w
  rw [if_neg h11]
  by_cases h12:same s (bs [71,65,80,83])=true
  · rw [if_pos h12,same_lit h12];exact special_12 w
  rw [if_neg h12]
  simp only [Bool.not_eq_true] at h0 h1 h2 h3 h4 h5 h6 h7 h8 h9 h10 h11 h12
  exact special_no s (same_false h0) (same_false h1) (same_false h2) (same_false h3) (same_false h4) (same_false h5) (same_false h6) (same_false h7) (same_false h8) (same_false h9) (same_false h10) (same_false h11) (same_false h12) w

theorem counts_0(w:World):Calls Tryz.prog 145 #[.string ⟨#[108,101,110,103,116,104]⟩] w fun r w'=>r= .returned (.tuple #[.int .i64 0,.int .i64 1])∧w'=w:=by
  go_enter Tryz.func145,Tryz.ntmps145
  go_wp2_with fail
  go_ret2
  exact ⟨rfl,rfl⟩

theorem counts_1(w:World):Calls Tryz.prog 145 #[.string ⟨#[115,114,97,110,100]⟩] w fun r w'=>r= .returned (.tuple #[.int .i64 0,.int .i64 1])∧w'=w:=by
  go_enter Tryz.func145,Tryz.ntmps145
  go_wp2_with fail
  go_ret2
  exact ⟨rfl,rfl⟩

theorem counts_2(w:World):Calls Tryz.prog 145 #[.string ⟨#[114,97,110,100]⟩] w fun r w'=>r= .returned (.tuple #[.int .i64 0,.int .i64 0])∧w'=w:=by
  go_enter Tryz.func145,Tryz.ntmps145
  go_wp2_with fail
  go_ret2
  exact ⟨rfl,rfl⟩

theorem counts_3(w:World):Calls Tryz.prog 145 #[.string ⟨#[105,110,100,101,120]⟩] w fun r w'=>r= .returned (.tuple #[.int .i64 2,.int .i64 2])∧w'=w:=by
  go_enter Tryz.func145,Tryz.ntmps145
  go_wp2_with fail
  go_ret2
  exact ⟨rfl,rfl⟩

theorem counts_4(w:World):Calls Tryz.prog 145 #[.string ⟨#[109,97,116,99,104]⟩] w fun r w'=>r= .returned (.tuple #[.int .i64 2,.int .i64 2])∧w'=w:=by
  go_enter Tryz.func145,Tryz.ntmps145
  go_wp2_with fail
  go_ret2
  exact ⟨rfl,rfl⟩

theorem counts_5(w:World):Calls Tryz.prog 145 #[.string ⟨#[97,116,97,110,50]⟩] w fun r w'=>r= .returned (.tuple #[.int .i64 2,.int .i64 2])∧w'=w:=by
  go_enter Tryz.func145,Tryz.ntmps145
  go_wp2_with fail
  go_ret2
  exact ⟨rfl,rfl⟩

theorem counts_6(w:World):Calls Tryz.prog 145 #[.string ⟨#[101,120,112,105,114,101]⟩] w fun r w'=>r= .returned (.tuple #[.int .i64 2,.int .i64 2])∧w'=w:=by
  go_enter Tryz.func145,Tryz.ntmps145
  go_wp2_with fail
  go_ret2
  exact ⟨rfl,rfl⟩

theorem counts_7(w:World):Calls Tryz.prog 145 #[.string ⟨#[115,117,98,115,116,114]⟩] w fun r w'=>r= .returned (.tuple #[.int .i64 2,.int .i64 3])∧w'=w:=by
  go_enter Tryz.func145,Tryz.ntmps145
  go_wp2_with fail
  go_ret2
  exact ⟨rfl,rfl⟩

theorem counts_8(w:World):Calls Tryz.prog 145 #[.string ⟨#[115,112,108,105,116]⟩] w fun r w'=>r= .returned (.tuple #[.int .i64 2,.int .i64 3])∧w'=w:=by
  go_enter Tryz.func145,Tryz.ntmps145
  go_wp2_with fail
  go_ret2
  exact ⟨rfl,rfl⟩

theorem counts_9(w:World):Calls Tryz.prog 145 #[.string ⟨#[115,117,98]⟩] w fun r w'=>r= .returned (.tuple #[.int .i64 2,.int .i64 3])∧w'=w:=by
  go_enter Tryz.func145,Tryz.ntmps145
  go_wp2_with fail
  go_ret2
  exact ⟨rfl,rfl⟩

theorem counts_10(w:World):Calls Tryz.prog 145 #[.string ⟨#[103,115,117,98]⟩] w fun r w'=>r= .returned (.tuple #[.int .i64 2,.int .i64 3])∧w'=w:=by
  go_enter Tryz.func145,Tryz.ntmps145
  go_wp2_with fail
  go_ret2
  exact ⟨rfl,rfl⟩

theorem counts_11(w:World):Calls Tryz.prog 145 #[.string ⟨#[115,112,114,105,110,116,102]⟩] w fun r w'=>r= .returned (.tuple #[.int .i64 1,.int .i64 1073741824])∧w'=w:=by
  go_enter Tryz.func145,Tryz.ntmps145
  go_wp2_with fail
  go_ret2
  exact ⟨rfl,rfl⟩

theorem counts_no(s:ByteArray)(h0:(s.toList== [108,101,110,103,116,104])=false)(h1:(s.toList== [115,114,97,110,100])=false)(h2:(s.toList== [114,97,110,100])=false)(h3:(s.toList== [105,110,100,101,120])=false)(h4:(s.toList== [109,97,116,99,104])=false)(h5:(s.toList== [97,116,97,110,50])=false)(h6:(s.toList== [101,120,112,105,114,101])=false)(h7:(s.toList== [115,117,98,115,116,114])=false)(h8:(s.toList== [115,112,108,105,116])=false)(h9:(s.toList== [115,117,98])=false)(h10:(s.toList== [103,115,117,98])=false)(h11:(s.toList== [115,112,114,105,110,116,102])=false)(w:World):Calls Tryz.prog 145 #[.string s] w fun r w'=>r= .returned (.tuple #[.int .i64 1,.int .i64 1])∧w'=w:=by
  go_enter Tryz.func145,Tryz.ntmps145
  go_wp2_with fail
  go_ret2
  exact ⟨rfl,rfl⟩
theorem counts_any(s:ByteArray)(w:World):Calls Tryz.prog 145 #[.string s] w fun r w'=>r= .returned (.tuple #[.int .i64 ((countsF s).1:Nat),.int .i64 ((countsF s).2:Nat)])∧w'=w:=by
  by_cases h0:same s (bs [108,101,110,103,116,104])=true
  · rw [same_lit h0];exact counts_0 w
  by_cases h1:same s (bs [115,114,97,110,100])=true
  · rw [same_lit h1];exact counts_1 w
  by_cases h2:same s (bs [114,97,110,100])=true
  · rw [same_lit h2];exact counts_2 w
  by_cases h3:same s (bs [105,110,100,101,120])=true
  · rw [same_lit h3];exact counts_3 w
  by_cases h4:same s (bs [109,97,116,99,104])=true
  · rw [same_lit h4];exact counts_4 w
  by_cases h5:same s (bs [97,116,97,110,50])=true
  · rw [same_lit h5];exact counts_5 w
  by_cases h6:same s (bs [101,120,112,105,114,101])=true
  · rw [same_lit h6];exact counts_6 w
  by_cases h7:same s (bs [115,117,98,115,116,114])=true
  · rw [same_lit h7];exact counts_7 w
  by_cases h8:same s (bs [115,112,108,105,116])=true
  · rw [same_lit h8];exact counts_8 w
  by_cases h9:same s (bs [115,117,98])=true
  · rw [same_lit h9];exact counts_9 w
  by_cases h10:same s (bs [103,115,117,98])=true
  · rw [same_lit h10];exact counts_10 w
  by_cases h11:same s (bs [115,112,114,105,110,116,102])=true
  · rw [same_lit h11];exact counts_11 w
  simp only [Bool.not_eq_true] at h0 h1 h2 h3 h4 h5 h6 h7 h8 h9 h10 h11
  have hc:countsF s=(1,1):=by
    unfold countsF
    simp only [memB,h0,h1,h2,h3,h4,h5,h6,h7,h8,h9,h10,h11,Bool.false_eq_true,if_false]
  rw [hc]
  exact counts_no s (same_false h0) (same_false h1) (same_false h2) (same_false h3) (same_false h4) (same_false h5) (same_false h6) (same_false h7) (same_false h8) (same_false h9) (same_false h10) (same_false h11) w
end Go.Proofs.YteafcepaolofpaaGreatDoor
end
