/- Texts of this claim, joined: NamD, NamE. -/
import Derived.Test.YteafcepaolofpaaGreatDoorNamC
set_option maxRecDepth 100000
set_option maxHeartbeats 4000000
set_option linter.unusedSimpArgs false
set_option linter.unusedVariables false
set_option linter.unusedSectionVars false
section
/- leave, root, walked. Made by a program (check.py, walk.py). -/
namespace Go.Proofs.YteafcepaolofpaaGreatDoor
open Go.RowKit

def RootI(K:CKey)(T:Nat→Prop)(ua:Option Addr)(uc:Nat)(st:NS)(r:Thing)(w:World)(B R:Nat)(g:Nat)(W:World):Prop:=
  ∃t,rootF st.same g t=some r∧CK K T ua uc st W∧Keeps [] w W∧W.heap[B]? =some (.cells #[.int .i64 t.1,.string t.2] 137 (0,0))∧W.heap[R]? =some (.cells #[.int .i64 0,.string ⟨#[]⟩] 137 (0,0))

theorem root_any{K:CKey}{T:Nat→Prop}{ua:Option Addr}{uc:Nat}{st:NS}{w:World}(h:CK K T ua uc st w){t r:Thing}{fu:Nat}(hx:rootF st.same fu t=some r):
    Calls Tryz.prog 68 #[.pointer (some ⟨K.c,0,none⟩),.agg #[.int .i64 t.1,.string t.2]] w fun q w'=>q= .returned (.agg #[.int .i64 r.1,.string r.2])∧Keeps [] w w':=by
  have HC0:=Lib.hid h;have HS0:=Lib.hid (CStep.refl K T w);have HK0:=Lib.hid (Keeps.refl [] w);have HX:=Lib.hid hx
  clear h hx
  go_enter Tryz.func68,Tryz.ntmps68
  obtain ⟨l_c,l_mf,l_ms,l_mn⟩:=HC0.out.lt
  have l_mf_1:K.mf<w.heap.size+1:=Nat.lt_add_right 1 l_mf
  have l_ms_1:K.ms<w.heap.size+1:=Nat.lt_add_right 1 l_ms
  have l_mn_1:K.mn<w.heap.size+1:=Nat.lt_add_right 1 l_mn
  have l_c_1:K.c<w.heap.size+1:=Nat.lt_add_right 1 l_c
  go_wp2_with fail
  refine wp_at (fun W=>Keeps [] w W∧W.heap[w.heap.size]? =some (.cells #[.int .i64 t.1,.string t.2] 137 (0,0))∧W.heap[w.heap.size+1]? =some (.cells #[.int .i64 0,.string ⟨#[]⟩] 137 (0,0))) ⟨(by with_reducible repeat (first|exact k0 _ _|refine kA ?_ _|refine kD ?_|refine kS ?_ (by simp)|refine kM ?_ (by simp))),(by simp only [hS,hA,hD,hM,World.size_alloc,World.size_setCell,World.size_drew,size_mset,Nat.add_right_cancel_iff,Nat.left_eq_add,Nat.add_eq_left,Nat.reduceEqDiff,Nat.add_assoc,Nat.reduceAdd,Nat.one_ne_zero,Nat.zero_ne_one,reduceIte,Option.map_some,Obj.put]<;>rfl),(by simp only [hS,hA,hD,hM,World.size_alloc,World.size_setCell,World.size_drew,size_mset,Nat.add_right_cancel_iff,Nat.left_eq_add,Nat.add_eq_left,Nat.reduceEqDiff,Nat.add_assoc,Nat.reduceAdd,Nat.one_ne_zero,Nat.zero_ne_one,reduceIte,Option.map_some,Obj.put]<;>rfl)⟩ ?_
  rintro w1 ⟨Kw1,cw1_B,cw1_R⟩
  have n_c_B:K.c≠w.heap.size:=Nat.ne_of_lt l_c
  have n_B_c:w.heap.size≠K.c:=Nat.ne_of_gt l_c
  have n_mf_B:K.mf≠w.heap.size:=Nat.ne_of_lt l_mf
  have n_B_mf:w.heap.size≠K.mf:=Nat.ne_of_gt l_mf
  have n_ms_B:K.ms≠w.heap.size:=Nat.ne_of_lt l_ms
  have n_B_ms:w.heap.size≠K.ms:=Nat.ne_of_gt l_ms
  have n_mn_B:K.mn≠w.heap.size:=Nat.ne_of_lt l_mn
  have n_B_mn:w.heap.size≠K.mn:=Nat.ne_of_gt l_mn
  have o_B:w.heap.size≤w.heap.size:=Nat.le_refl _
  have off_B:Off K T (w.heap.size):=off_new HC0.out (Nat.le_refl _)
  have o0_B:K.w0.heap.size≤w.heap.size:=Nat.le_trans HC0.out.keep.size (Nat.le_refl _)
  have n_c_R:K.c≠w.heap.size+1:=Nat.ne_of_lt (Nat.lt_add_right 1 l_c)
  have n_R_c:w.heap.size+1≠K.c:=Nat.ne_of_gt (Nat.lt_add_right 1 l_c)
  have n_mf_R:K.mf≠w.heap.size+1:=Nat.ne_of_lt (Nat.lt_add_right 1 l_mf)
  have n_R_mf:w.heap.size+1≠K.mf:=Nat.ne_of_gt (Nat.lt_add_right 1 l_mf)
  have n_ms_R:K.ms≠w.heap.size+1:=Nat.ne_of_lt (Nat.lt_add_right 1 l_ms)
  have n_R_ms:w.heap.size+1≠K.ms:=Nat.ne_of_gt (Nat.lt_add_right 1 l_ms)
  have n_mn_R:K.mn≠w.heap.size+1:=Nat.ne_of_lt (Nat.lt_add_right 1 l_mn)
  have n_R_mn:w.heap.size+1≠K.mn:=Nat.ne_of_gt (Nat.lt_add_right 1 l_mn)
  have n_B_R:w.heap.size≠w.heap.size+1:=by simp
  have n_R_B:w.heap.size+1≠w.heap.size:=by simp
  have o_R:w.heap.size≤w.heap.size+1:=Nat.le_trans (Nat.le_refl _) (Nat.le_add_right _ 1)
  have off_R:Off K T (w.heap.size+1):=off_new HC0.out (Nat.le_add_right _ 1)
  have o0_R:K.w0.heap.size≤w.heap.size+1:=Nat.le_trans HC0.out.keep.size (Nat.le_add_right _ 1)
  have HCw1:=Lib.hid (HC0.out.kp0 Kw1)
  have HSw1:=Lib.hid (HS0.out.loc Kw1 (by simp))
  have HKw1:=Lib.hid (HK0.out.trans Kw1 (by simp))
  have Rw1_B:=Lib.hid cw1_B
  have Rw1_R:=Lib.hid cw1_R
  clear Kw1 cw1_B cw1_R l_c l_c_1 l_mf_1 l_ms_1 l_mn_1 l_mf l_ms l_mn HC0 HS0 HK0
  go_loopg [] fu (fun g wr=>RootI K T ua uc st r w (w.heap.size) (w.heap.size+1) g wr)
  case atStart=>exact ⟨t,HX.out,HCw1.out,HKw1.out,Rw1_B.out,Rw1_R.out⟩
  clear HX
  case round=>
    obtain ⟨t1,hG,hc,hk,hB,hR⟩:=hrel
    have HCr:=Lib.hid hc;have HSr:=Lib.hid ((CStep.refl K T w).loc hk (by simp));have HKr:=Lib.hid hk;have RB:=Lib.hid hB;have RR:=Lib.hid hR
    clear hc hk hB hR
    cases gk with
    |zero=>simp [rootF] at hG
    | succ f=>
      rw [rootF] at hG
      cases ha:alook t1 st.same with
      | none=>
        rw [ha] at hG
        simp only [Option.some.injEq] at hG
        subst hG
        have HA:Hid (alook (t1.1,t1.2) st.same=none):=Lib.hid ha
        clear ha
        obtain ⟨l_c,xc_0,xc_1,xc_2,xc_3,xc_4,xc_5,xc_6,xc_7,xc_8,xc_9,xc_10,yc_0,yc_1,yc_2,yc_3,yc_4,yc_5,yc_6,yc_7,yc_8,yc_9,yc_10⟩:=cf11 HCr.out.row
        obtain ⟨-,l_mf,l_ms,l_mn⟩:=HCr.out.lt
        obtain ⟨l_B,xB_0,xB_1,yB_0,yB_1⟩:=cf2 RB.out
        have l_R:=h_lt RR.out
        go_upto_region 1 with fail
        have hlk1:=(HCr.out.kp0 (Keeps.drew [] wr)).look_none HA.out
        have hlk2:=(HCr.out.kp0 (kD (kA (k0 [] wr) (.cells #[.int .i64 0,.string ⟨#[]⟩] 137)))).look_none HA.out
        have hlk3:=(HCr.out.kp0 (kA (kD (k0 [] wr)) (.cells #[.int .i64 0,.string ⟨#[]⟩] 137))).look_none HA.out
        go_cut [5,6] (fun s5 s6 W=>s5= .pointer (some ⟨wr.heap.size,0,none⟩)∧s6= .bool false∧Keeps [] wr W∧W.heap[wr.heap.size]? =some (.cells #[.int .i64 0,.string ⟨#[]⟩] 137 (0,0)))
        case first=>
          go_region
          all_goals
            go_wp2_with fail
            go_meet
            case rel=>exact ⟨rfl,rfl,(by with_reducible repeat (first|exact k0 _ _|refine kA ?_ _|refine kD ?_|refine kS ?_ (by simp)|refine kM ?_ (by simp))),(by simp only [hS,hA,hD,hM,World.size_setCell,World.size_drew,reduceIte,Option.map_some,Obj.put]<;>rfl)⟩
        case rest=>
          obtain ⟨rfl,rfl,Kw51,cc_U⟩:=hcut
          generalize wc=w51 at*
          have cw51_U:=cc_U
          clear cc_U
          have n_c_U:K.c≠wr.heap.size:=Nat.ne_of_lt l_c
          have n_U_c:wr.heap.size≠K.c:=Nat.ne_of_gt l_c
          have n_mf_U:K.mf≠wr.heap.size:=Nat.ne_of_lt l_mf
          have n_U_mf:wr.heap.size≠K.mf:=Nat.ne_of_gt l_mf
          have n_ms_U:K.ms≠wr.heap.size:=Nat.ne_of_lt l_ms
          have n_U_ms:wr.heap.size≠K.ms:=Nat.ne_of_gt l_ms
          have n_mn_U:K.mn≠wr.heap.size:=Nat.ne_of_lt l_mn
          have n_U_mn:wr.heap.size≠K.mn:=Nat.ne_of_gt l_mn
          have n_B_U:w.heap.size≠wr.heap.size:=Nat.ne_of_lt l_B
          have n_U_B:wr.heap.size≠w.heap.size:=Nat.ne_of_gt l_B
          have n_R_U:w.heap.size+1≠wr.heap.size:=Nat.ne_of_lt l_R
          have n_U_R:wr.heap.size≠w.heap.size+1:=Nat.ne_of_gt l_R
          have o_U:w.heap.size≤wr.heap.size:=HSr.out.size
          have off_U:Off K T (wr.heap.size):=off_new HCr.out (Nat.le_refl _)
          have o0_U:K.w0.heap.size≤wr.heap.size:=Nat.le_trans HCr.out.keep.size (Nat.le_refl _)
          have Rw51_B:=Lib.hid (Kw51.at RB.out (by simp))
          have Rw51_R:=Lib.hid (Kw51.at RR.out (by simp))
          have HCw51:=Lib.hid (HCr.out.kp0 Kw51)
          have HSw51:=Lib.hid (HSr.out.loc Kw51 (by simp))
          have HKw51:=Lib.hid (HKr.out.trans Kw51 (by simp))
          have Rw51_U:=Lib.hid cw51_U
          clear Kw51 cw51_U l_c xc_0 xc_1 xc_2 xc_3 xc_4 xc_5 xc_6 xc_7 xc_8 xc_9 xc_10 yc_0 yc_1 yc_2 yc_3 yc_4 yc_5 yc_6 yc_7 yc_8 yc_9 yc_10 l_B xB_0 xB_1 yB_0 yB_1 l_R l_mf l_ms l_mn RB RR HCr HSr HKr
          obtain ⟨l_c,l_mf,l_ms,l_mn⟩:=HCw51.out.lt
          obtain ⟨l_B,xB_0,xB_1,yB_0,yB_1⟩:=cf2 Rw51_B.out
          obtain ⟨l_R,xR_0,xR_1,yR_0,yR_1⟩:=cf2 Rw51_R.out
          have l_U:=h_lt Rw51_U.out
          go_wp2_with fail
          refine ret_at (v:= .agg #[.int .i64 t1.1,.string t1.2]) (fun W=>Keeps [w.heap.size+1] w51 W∧W.heap[w.heap.size+1]? =some (.cells #[.int .i64 t1.1,.string t1.2] 137 (0,0))) ⟨(by with_reducible repeat (first|exact k0 _ _|refine kA ?_ _|refine kD ?_|refine kS ?_ (by simp)|refine kM ?_ (by simp))),(by simp only [hS,hA,hD,hM,reduceIte,Option.map_some,Obj.put,Rw51_R.out,Nat.ne_of_lt l_R,Nat.ne_of_gt l_R]<;>rfl)⟩ (fun w52 hW=> ?_) rfl (fun w52 hW=> ?_)
          · obtain ⟨Kw52,cw52_R⟩:=hW
            have q0:=cell_of_heap cw52_R 0
            have q1:=cell_of_heap cw52_R 1
            simp at q0 q1
            simp [results,Tryz.results68,go_sem,q0,q1]
          · obtain ⟨Kw52,cw52_R⟩:=hW
            have Rw52_B:=Lib.hid (Kw52.at Rw51_B.out (by simp [n_B_R]))
            have Rw52_U:=Lib.hid (Kw52.at Rw51_U.out (by simp [n_U_R]))
            have HCw52:=Lib.hid (HCw51.out.kp Kw52 (by simp [o0_R]) (by simp [n_c_R]) (by simp [n_mf_R]) (by simp [n_ms_R]) (by simp [n_mn_R]) (by simp [(off_R).2.2.2]))
            have HSw52:=Lib.hid (HSw51.out.loc Kw52 (by simp [o_R]))
            have HKw52:=Lib.hid (HKw51.out.trans Kw52 (by simp [o_R]))
            have Rw52_R:=Lib.hid cw52_R
            clear Kw52 cw52_R l_c l_B xB_0 xB_1 yB_0 yB_1 l_R xR_0 xR_1 yR_0 yR_1 l_U l_mf l_ms l_mn Rw51_B Rw51_U HCw51 HSw51 HKw51 Rw51_R
            exact ⟨rfl,HKw52.out⟩
      | some u=>
        rw [ha] at hG
        simp only at hG
        have HA:Hid (alook (t1.1,t1.2) st.same=some (u.1,u.2)):=Lib.hid ha
        have HF:=Lib.hid hG
        clear ha hG
        obtain ⟨l_c,xc_0,xc_1,xc_2,xc_3,xc_4,xc_5,xc_6,xc_7,xc_8,xc_9,xc_10,yc_0,yc_1,yc_2,yc_3,yc_4,yc_5,yc_6,yc_7,yc_8,yc_9,yc_10⟩:=cf11 HCr.out.row
        obtain ⟨-,l_mf,l_ms,l_mn⟩:=HCr.out.lt
        obtain ⟨l_B,xB_0,xB_1,yB_0,yB_1⟩:=cf2 RB.out
        have l_R:=h_lt RR.out
        go_upto_region 1 with fail
        have hlk1:=(HCr.out.kp0 (Keeps.drew [] wr)).look_some HA.out
        have hlk2:=(HCr.out.kp0 (kD (kA (k0 [] wr) (.cells #[.int .i64 0,.string ⟨#[]⟩] 137)))).look_some HA.out
        have hlk3:=(HCr.out.kp0 (kA (kD (k0 [] wr)) (.cells #[.int .i64 0,.string ⟨#[]⟩] 137))).look_some HA.out
        go_cut [5,6] (fun s5 s6 W=>s5= .pointer (some ⟨wr.heap.size,0,none⟩)∧s6= .bool true∧Keeps [] wr W∧W.heap[wr.heap.size]? =some (.cells #[.int .i64 u.1,.string u.2] 137 (0,0)))
        case first=>
          go_region
          all_goals
            go_wp2_with fail
            go_meet
            case rel=>exact ⟨rfl,rfl,(by with_reducible repeat (first|exact k0 _ _|refine kA ?_ _|refine kD ?_|refine kS ?_ (by simp)|refine kM ?_ (by simp))),(by simp only [hS,hA,hD,hM,World.size_setCell,World.size_drew,reduceIte,Option.map_some,Obj.put]<;>rfl)⟩
        case rest=>
          obtain ⟨rfl,rfl,Kw51,cc_U⟩:=hcut
          generalize wc=w51 at*
          have cw51_U:=cc_U
          clear cc_U
          have n_c_U:K.c≠wr.heap.size:=Nat.ne_of_lt l_c
          have n_U_c:wr.heap.size≠K.c:=Nat.ne_of_gt l_c
          have n_mf_U:K.mf≠wr.heap.size:=Nat.ne_of_lt l_mf
          have n_U_mf:wr.heap.size≠K.mf:=Nat.ne_of_gt l_mf
          have n_ms_U:K.ms≠wr.heap.size:=Nat.ne_of_lt l_ms
          have n_U_ms:wr.heap.size≠K.ms:=Nat.ne_of_gt l_ms
          have n_mn_U:K.mn≠wr.heap.size:=Nat.ne_of_lt l_mn
          have n_U_mn:wr.heap.size≠K.mn:=Nat.ne_of_gt l_mn
          have n_B_U:w.heap.size≠wr.heap.size:=Nat.ne_of_lt l_B
          have n_U_B:wr.heap.size≠w.heap.size:=Nat.ne_of_gt l_B
          have n_R_U:w.heap.size+1≠wr.heap.size:=Nat.ne_of_lt l_R
          have n_U_R:wr.heap.size≠w.heap.size+1:=Nat.ne_of_gt l_R
          have o_U:w.heap.size≤wr.heap.size:=HSr.out.size
          have off_U:Off K T (wr.heap.size):=off_new HCr.out (Nat.le_refl _)
          have o0_U:K.w0.heap.size≤wr.heap.size:=Nat.le_trans HCr.out.keep.size (Nat.le_refl _)
          have Rw51_B:=Lib.hid (Kw51.at RB.out (by simp))
          have Rw51_R:=Lib.hid (Kw51.at RR.out (by simp))
          have HCw51:=Lib.hid (HCr.out.kp0 Kw51)
          have HSw51:=Lib.hid (HSr.out.loc Kw51 (by simp))
          have HKw51:=Lib.hid (HKr.out.trans Kw51 (by simp))
          have Rw51_U:=Lib.hid cw51_U
          clear Kw51 cw51_U l_c xc_0 xc_1 xc_2 xc_3 xc_4 xc_5 xc_6 xc_7 xc_8 xc_9 xc_10 yc_0 yc_1 yc_2 yc_3 yc_4 yc_5 yc_6 yc_7 yc_8 yc_9 yc_10 l_B xB_0 xB_1 yB_0 yB_1 l_R l_mf l_ms l_mn RB RR HCr HSr HKr
          obtain ⟨l_c,l_mf,l_ms,l_mn⟩:=HCw51.out.lt
          obtain ⟨l_B,xB_0,xB_1,yB_0,yB_1⟩:=cf2 Rw51_B.out
          have l_R:=h_lt Rw51_R.out
          obtain ⟨l_U,xU_0,xU_1,yU_0,yU_1⟩:=cf2 Rw51_U.out
          go_wp2_with fail
          go_roundg f
          case measure=>omega
          case rel=>
            refine inv_at (fun W=>Keeps [w.heap.size] w51 W∧W.heap[w.heap.size]? =some (.cells #[.int .i64 u.1,.string u.2] 137 (0,0))) ⟨(by with_reducible repeat (first|exact k0 _ _|refine kA ?_ _|refine kD ?_|refine kS ?_ (by simp)|refine kM ?_ (by simp))),(by simp only [hS,hA,hD,hM,reduceIte,Option.map_some,Obj.put,Rw51_B.out,Nat.ne_of_lt l_B,Nat.ne_of_gt l_B]<;>rfl)⟩ ?_
            rintro w52 ⟨Kw52,cw52_B⟩
            have Rw52_R:=Lib.hid (Kw52.at Rw51_R.out (by simp [n_R_B]))
            have Rw52_U:=Lib.hid (Kw52.at Rw51_U.out (by simp [n_U_B]))
            have HCw52:=Lib.hid (HCw51.out.kp Kw52 (by simp [o0_B]) (by simp [n_c_B]) (by simp [n_mf_B]) (by simp [n_ms_B]) (by simp [n_mn_B]) (by simp [(off_B).2.2.2]))
            have HSw52:=Lib.hid (HSw51.out.loc Kw52 (by simp [o_B]))
            have HKw52:=Lib.hid (HKw51.out.trans Kw52 (by simp [o_B]))
            have Rw52_B:=Lib.hid cw52_B
            clear Kw52 cw52_B l_c l_B xB_0 xB_1 yB_0 yB_1 l_R l_U xU_0 xU_1 yU_0 yU_1 l_mf l_ms l_mn Rw51_R Rw51_U HCw51 HSw51 HKw51 Rw51_B
            exact ⟨u,HF.out,HCw52.out,HKw52.out,Rw52_B.out,Rw52_R.out⟩
end Go.Proofs.YteafcepaolofpaaGreatDoor
end
section
/- of, walked. Made by a program (check.py, walk.py). -/
namespace Go.Proofs.YteafcepaolofpaaGreatDoor
open Go.RowKit

def OfI(K:CKey)(T:Nat→Prop)(ua:Option Addr)(uc:Nat)(st:NS)(name:ByteArray)(ps:List ByteArray)(w:World)(R:Nat)(g:Nat)(i:Value)(W:World):Prop:=
  ∃k:Nat,i= .int .i64 k∧k≤ps.length∧g+k=ps.length+1∧memB name (ps.take k)=false∧CK K T ua uc st W∧CStep K T T w W∧W.heap[R]? =some (.cells #[.int .i64 0,.string ⟨#[]⟩] 137 (0,0))
theorem memB_append(s:ByteArray):∀(l m:List ByteArray),memB s (l++m)=(memB s l||memB s m)
  | [],m=>by simp [memB]
  | x::l,m=>by
    simp only [List.cons_append,memB]
    by_cases h:same s x=true
    · simp [h]
    · simp [h,memB_append s l m]
theorem same_comm(a b:ByteArray):same a b=same b a:=by
  by_cases h:a=b
  · rw [h]
  · have h1:¬same a b=true:=fun h2=>h (same_iff.1 h2)
    have h2:¬same b a=true:=fun h2=>h (same_iff.1 h2).symm
    simp only [Bool.not_eq_true] at h1 h2
    rw [h1,h2]

theorem of_fn{K:CKey}(hK:CFix K){T:Nat→Prop}{ua:Option Addr}{uc:Nat}{st:NS}{w:World}(h:CK K T ua uc st w)(name:ByteArray){i:Nat}(hfn:st.fn=i+1)(hi:i<K.g.funcs.length):
    Calls Tryz.prog 107 #[.pointer (some ⟨K.c,0,none⟩),.string name] w fun r w'=>∃a st',r= .returned (.agg #[.int .i64 a,.string name])∧((memB name K.g.funcs[i].params=true∧a=(st.fn:Int)∧st'=st)∨(memB name K.g.funcs[i].params=false∧a=0∧st'=seePut st (0,name)))∧CK K T ua uc st' w'∧CStep K T T w w':=by
  have d0:decide (0<st.fn)=true:=by simp [hfn]
  have d1:(0:Int)<(st.fn:Int):=by omega
  have d2:(st.fn:Int) -1=(i:Int):=by omega
  have d3:(i:Int)<(K.g.funcs.length:Int):=by omega
  have d4:(st.fn:Int)≤1000000:=by have:=h.fn;have:=hK.small;omega
  have d5:K.g.funcs[i].params.length≤1000000:=hK.psmall _ (List.getElem_mem hi)
  have HC0:=Lib.hid h;have HS0:=Lib.hid (CStep.refl K T w);have HF:=Lib.hid hfn
  clear h hfn
  go_enter Tryz.func107,Tryz.ntmps107
  obtain ⟨l_c,xc_0,xc_1,xc_2,xc_3,xc_4,xc_5,xc_6,xc_7,xc_8,xc_9,xc_10,yc_0,yc_1,yc_2,yc_3,yc_4,yc_5,yc_6,yc_7,yc_8,yc_9,yc_10⟩:=cf11 HC0.out.row
  obtain ⟨-,l_mf,l_ms,l_mn⟩:=HC0.out.lt
  go_upto_region 2 with fail
  refine wp_at (fun W=>Keeps [] w W∧W.heap[w.heap.size]? =some (.cells #[.int .i64 0,.string ⟨#[]⟩] 137 (0,0))) ⟨(by with_reducible repeat (first|exact k0 _ _|refine kA ?_ _|refine kD ?_|refine kS ?_ (by simp)|refine kM ?_ (by simp))),(by simp only [hS,hA,hD,hM,World.size_setCell,World.size_drew,reduceIte,Option.map_some,Obj.put]<;>rfl)⟩ ?_
  rintro w1 ⟨Kw1,cw1_R⟩
  have n_c_R:K.c≠w.heap.size:=Nat.ne_of_lt l_c
  have n_R_c:w.heap.size≠K.c:=Nat.ne_of_gt l_c
  have n_mf_R:K.mf≠w.heap.size:=Nat.ne_of_lt l_mf
  have n_R_mf:w.heap.size≠K.mf:=Nat.ne_of_gt l_mf
  have n_ms_R:K.ms≠w.heap.size:=Nat.ne_of_lt l_ms
  have n_R_ms:w.heap.size≠K.ms:=Nat.ne_of_gt l_ms
  have n_mn_R:K.mn≠w.heap.size:=Nat.ne_of_lt l_mn
  have n_R_mn:w.heap.size≠K.mn:=Nat.ne_of_gt l_mn
  have o_R:w.heap.size≤w.heap.size:=Nat.le_refl _
  have off_R:Off K T (w.heap.size):=off_new HC0.out (Nat.le_refl _)
  have o0_R:K.w0.heap.size≤w.heap.size:=Nat.le_trans HC0.out.keep.size (Nat.le_refl _)
  have HCw1:=Lib.hid (HC0.out.kp0 Kw1)
  have HSw1:=Lib.hid (HS0.out.loc Kw1 (by simp))
  have Rw1_R:=Lib.hid cw1_R
  clear Kw1 cw1_R l_c xc_0 xc_1 xc_2 xc_3 xc_4 xc_5 xc_6 xc_7 xc_8 xc_9 xc_10 yc_0 yc_1 yc_2 yc_3 yc_4 yc_5 yc_6 yc_7 yc_8 yc_9 yc_10 l_mf l_ms l_mn HC0 HS0
  obtain ⟨l_c,xc_0,xc_1,xc_2,xc_3,xc_4,xc_5,xc_6,xc_7,xc_8,xc_9,xc_10,yc_0,yc_1,yc_2,yc_3,yc_4,yc_5,yc_6,yc_7,yc_8,yc_9,yc_10⟩:=cf11 HCw1.out.row
  obtain ⟨-,l_mf,l_ms,l_mn⟩:=HCw1.out.lt
  have l_R:=h_lt Rw1_R.out
  obtain ⟨g,o,pa,pc,b0,b1,b2,b3,b4,hfa,-,hcp,-,-,-,-,-,-,hsp,-⟩:=CK.func hK (HCw1.out.kp0 (Keeps.drew [] w1)) hi
  have HSP:=Lib.hid hsp;have HFA:=Lib.hid hfa
  clear hsp
  rw [hfa] at xc_1
  go_cut [25,26,27] (fun s25 s26 s27 W=>s25= .slice pa K.g.funcs[i].params.length pc∧s26= .int .i64 K.g.funcs[i].params.length∧s27= .int .i64 0∧Keeps [] w1 W)
  case first=>
    go_region
    all_goals
      go_wp2_with fail
      go_meet
      case rel=>exact ⟨rfl,rfl,rfl,(by with_reducible repeat (first|exact k0 _ _|refine kA ?_ _|refine kD ?_|refine kS ?_ (by simp)|refine kM ?_ (by simp)))⟩
  case rest =>
    obtain ⟨rfl,rfl,rfl,hk⟩:=hcut
    have HCl:=Lib.hid (HCw1.out.kp0 hk);have HSl:=Lib.hid (HSw1.out.loc hk (by simp));have RRl:=Lib.hid (hk.at Rw1_R.out (by simp))
    clear hk hcp l_c xc_0 xc_1 xc_2 xc_3 xc_4 xc_5 xc_6 xc_7 xc_8 xc_9 xc_10 yc_0 yc_1 yc_2 yc_3 yc_4 yc_5 yc_6 yc_7 yc_8 yc_9 yc_10 l_R l_mf l_ms l_mn HCw1 HSw1
    clear hfa
    generalize wc=wl at*
    go_wp2_with fail
    go_loopg [27] (K.g.funcs[i].params.length+1) (fun g j wr=>OfI K T ua uc st name K.g.funcs[i].params w (w.heap.size) g j wr)
    case atStart=>exact ⟨0,rfl,Nat.zero_le _,rfl,rfl,HCl.out,HSl.out,RRl.out⟩
    case round=>
      obtain ⟨k,rfl,hk1,hk2,hm,hc,hs,hR⟩:=hrel
      have HCr:=Lib.hid hc;have HSr:=Lib.hid hs;have RR:=Lib.hid hR;have HM0:=Lib.hid hm
      clear hc hs hR hm
      by_cases hlt:k<K.g.funcs[i].params.length
      · obtain ⟨g2,o2,hpa,hcs⟩:=CK.str HCr.out HSP.out hlt
        subst hpa
        have hta:K.g.funcs[i].params.take (k+1)=K.g.funcs[i].params.take k++ [K.g.funcs[i].params[k]]:=List.take_succ_eq_append_getElem hlt
        have hmt:memB name (K.g.funcs[i].params.take (k+1))=same name K.g.funcs[i].params[k]:=by
          rw [hta,memB_append,HM0.out];simp only [memB,Bool.false_or];split<;>simp_all
        by_cases heq:same K.g.funcs[i].params[k] name=true
        · have hm1:memB name K.g.funcs[i].params=true:=by
            have h1:=List.take_append_drop (k+1) K.g.funcs[i].params
            rw [←h1,memB_append,hmt,same_comm,heq];rfl
          have heb:(K.g.funcs[i].params[k].toList==name.toList)=true:=by rw [same_eq];exact heq
          have HMT:=Lib.hid hm1
          clear hta hmt hm1 heq
          generalize K.g.funcs[i].params[k]=q at*
          obtain ⟨l_c,xc_0,xc_1,xc_2,xc_3,xc_4,xc_5,xc_6,xc_7,xc_8,xc_9,xc_10,yc_0,yc_1,yc_2,yc_3,yc_4,yc_5,yc_6,yc_7,yc_8,yc_9,yc_10⟩:=cf11 HCr.out.row
          obtain ⟨-,l_mf,l_ms,l_mn⟩:=HCr.out.lt
          obtain ⟨l_R,xR_0,xR_1,yR_0,yR_1⟩:=cf2 RR.out
          go_wp2_with fail
          refine ret_at (v:= .agg #[.int .i64 st.fn,.string name]) (fun W=>Keeps [w.heap.size] wr W∧W.heap[w.heap.size]? =some (.cells #[.int .i64 st.fn,.string name] 137 (0,0))) ⟨(by with_reducible repeat (first|exact k0 _ _|refine kA ?_ _|refine kD ?_|refine kS ?_ (by simp)|refine kM ?_ (by simp))),(by simp only [hS,hA,hD,hM,reduceIte,Option.map_some,Obj.put,RR.out,Nat.ne_of_lt l_R,Nat.ne_of_gt l_R]<;>rfl)⟩ (fun w51 hW=> ?_) rfl (fun w51 hW=> ?_)
          · obtain ⟨Kw51,cw51_R⟩:=hW
            have q0:=cell_of_heap cw51_R 0
            have q1:=cell_of_heap cw51_R 1
            simp at q0 q1
            simp [results,Tryz.results107,go_sem,q0,q1]
          · obtain ⟨Kw51,cw51_R⟩:=hW
            have HCw51:=Lib.hid (HCr.out.kp Kw51 (by simp [o0_R]) (by simp [n_c_R]) (by simp [n_mf_R]) (by simp [n_ms_R]) (by simp [n_mn_R]) (by simp [(off_R).2.2.2]))
            have HSw51:=Lib.hid (HSr.out.loc Kw51 (by simp [o_R]))
            have Rw51_R:=Lib.hid cw51_R
            clear Kw51 cw51_R l_c xc_0 xc_1 xc_2 xc_3 xc_4 xc_5 xc_6 xc_7 xc_8 xc_9 xc_10 yc_0 yc_1 yc_2 yc_3 yc_4 yc_5 yc_6 yc_7 yc_8 yc_9 yc_10 l_R xR_0 xR_1 yR_0 yR_1 l_mf l_ms l_mn HCr HSr RR
            exact ⟨_,_,rfl,.inl ⟨HMT.out,rfl,rfl⟩,HCw51.out,HSw51.out⟩
        · simp only [Bool.not_eq_true] at heq
          have heb:(K.g.funcs[i].params[k].toList==name.toList)=false:=by rw [same_eq];exact heq
          have HM:=Lib.hid (show memB name (K.g.funcs[i].params.take (k+1))=false by rw [hmt,same_comm];exact heq)
          clear hta hmt heq
          generalize K.g.funcs[i].params[k]=q at*
          cases gk with
          |zero=>omega
          | succ f=>
            obtain ⟨l_c,l_mf,l_ms,l_mn⟩:=HCr.out.lt
            have l_R:=h_lt RR.out
            go_wp2_with fail
            go_roundg f
            case measure=>omega
            case rel=>
              exact ⟨k+1,by first|rfl|(simp;done)|(simp;omega),by omega,by omega,HM.out,HCr.out,HSr.out,RR.out⟩
      · have hke:k=K.g.funcs[i].params.length:=by omega
        have HMF:=Lib.hid (show memB name K.g.funcs[i].params=false by have:=HM0.out;rw [hke,List.take_length] at this;exact this)
        clear hke
        obtain ⟨l_c,l_mf,l_ms,l_mn⟩:=HCr.out.lt
        have l_R:=h_lt RR.out
        go_upto_region 9 with fail
        refine wp_at (fun W=>Keeps [] wr W∧W.heap[wr.heap.size]? =some (.cells #[.int .i64 0,.string name] 137 (0,0))) ⟨(by with_reducible repeat (first|exact k0 _ _|refine kA ?_ _|refine kD ?_|refine kS ?_ (by simp)|refine kM ?_ (by simp))),(by simp only [hS,hA,hD,hM,World.size_setCell,World.size_drew,reduceIte,Option.map_some,Obj.put]<;>rfl)⟩ ?_
        rintro w51 ⟨Kw51,cw51_U⟩
        have n_c_U:K.c≠wr.heap.size:=Nat.ne_of_lt l_c
        have n_U_c:wr.heap.size≠K.c:=Nat.ne_of_gt l_c
        have n_mf_U:K.mf≠wr.heap.size:=Nat.ne_of_lt l_mf
        have n_U_mf:wr.heap.size≠K.mf:=Nat.ne_of_gt l_mf
        have n_ms_U:K.ms≠wr.heap.size:=Nat.ne_of_lt l_ms
        have n_U_ms:wr.heap.size≠K.ms:=Nat.ne_of_gt l_ms
        have n_mn_U:K.mn≠wr.heap.size:=Nat.ne_of_lt l_mn
        have n_U_mn:wr.heap.size≠K.mn:=Nat.ne_of_gt l_mn
        have n_R_U:w.heap.size≠wr.heap.size:=Nat.ne_of_lt l_R
        have n_U_R:wr.heap.size≠w.heap.size:=Nat.ne_of_gt l_R
        have o_U:w.heap.size≤wr.heap.size:=HSr.out.size
        have off_U:Off K T (wr.heap.size):=off_new HCr.out (Nat.le_refl _)
        have o0_U:K.w0.heap.size≤wr.heap.size:=Nat.le_trans HCr.out.keep.size (Nat.le_refl _)
        have Rw51_R:=Lib.hid (Kw51.at RR.out (by simp))
        have HCw51:=Lib.hid (HCr.out.kp0 Kw51)
        have HSw51:=Lib.hid (HSr.out.loc Kw51 (by simp))
        have Rw51_U:=Lib.hid cw51_U
        clear Kw51 cw51_U l_c l_R l_mf l_ms l_mn RR HCr HSr
        obtain ⟨l_c,xc_0,xc_1,xc_2,xc_3,xc_4,xc_5,xc_6,xc_7,xc_8,xc_9,xc_10,yc_0,yc_1,yc_2,yc_3,yc_4,yc_5,yc_6,yc_7,yc_8,yc_9,yc_10⟩:=cf11 HCw51.out.row
        obtain ⟨-,l_mf,l_ms,l_mn⟩:=HCw51.out.lt
        have l_R:=h_lt Rw51_R.out
        obtain ⟨l_U,xU_0,xU_1,yU_0,yU_1⟩:=cf2 Rw51_U.out
        obtain ⟨es,ek,hes,hes2⟩:=HCw51.out.seen
        have HEB:=Lib.hid hes;have HES:=Lib.hid hes2
        clear hes hes2
        have hup:(Instr.mapUpdate 89 (.map (some K.mn)) (.agg #[.int .i64 (0),.string name]) (.agg #[])).run Tryz.prog w51.drew= .ok () (mset w51.drew K.mn (.map (ents tval (kput ((0,name):Thing) (.agg #[]) ek es).1) (kput ((0,name):Thing) (.agg #[]) ek es).2)):=run_see (K:=K) (W:=w51.drew) HEB.out (0) name
        go_cut [] (fun W=>Keeps [K.mn] w51 W∧W.heap[K.mn]? =some (.map (ents tval (kput ((0,name):Thing) (.agg #[]) ek es).1) (kput ((0,name):Thing) (.agg #[]) ek es).2))
        case first=>
          go_region
          all_goals
            go_wp2_with fail
            go_meet
            case rel=>exact ⟨(by with_reducible repeat (first|exact k0 _ _|refine kA ?_ _|refine kD ?_|refine kS ?_ (by simp)|refine kM ?_ (by simp))),(by simp only [hS,hA,hD,hM,reduceIte,Option.map_some,HEB.out]<;>rfl)⟩
        case rest=>
          obtain ⟨Kw52,cc_mn⟩:=hcut
          generalize wc=w52 at*
          have cw52_mn:=cc_mn
          clear cc_mn hup
          have Rw52_R:=Lib.hid (Kw52.at Rw51_R.out (by simp [n_R_mn]))
          have Rw52_U:=Lib.hid (Kw52.at Rw51_U.out (by simp [n_U_mn]))
          have HCw52:Hid (CK K T ua uc (seePut st (0,name)) w52):=Lib.hid (HCw51.out.see hK (0,name) HES.out Kw52 cw52_mn)
          have HSw52:=Lib.hid (HSw51.out.mn Kw52)
          have Rw52_mn:=Lib.hid cw52_mn
          clear Kw52 cw52_mn l_c xc_0 xc_1 xc_2 xc_3 xc_4 xc_5 xc_6 xc_7 xc_8 xc_9 xc_10 yc_0 yc_1 yc_2 yc_3 yc_4 yc_5 yc_6 yc_7 yc_8 yc_9 yc_10 l_R l_U xU_0 xU_1 yU_0 yU_1 l_mf l_ms l_mn Rw51_R Rw51_U HCw51 HSw51
          obtain ⟨l_c,l_mf,l_ms,l_mn⟩:=HCw52.out.lt
          obtain ⟨l_R,xR_0,xR_1,yR_0,yR_1⟩:=cf2 Rw52_R.out
          obtain ⟨l_U,xU_0,xU_1,yU_0,yU_1⟩:=cf2 Rw52_U.out
          go_wp2_with fail
          refine ret_at (v:= .agg #[.int .i64 0,.string name]) (fun W=>Keeps [w.heap.size] w52 W∧W.heap[w.heap.size]? =some (.cells #[.int .i64 0,.string name] 137 (0,0))) ⟨(by with_reducible repeat (first|exact k0 _ _|refine kA ?_ _|refine kD ?_|refine kS ?_ (by simp)|refine kM ?_ (by simp))),(by simp only [hS,hA,hD,hM,reduceIte,Option.map_some,Obj.put,Rw52_R.out,Nat.ne_of_lt l_R,Nat.ne_of_gt l_R]<;>rfl)⟩ (fun w53 hW=> ?_) rfl (fun w53 hW=> ?_)
          · obtain ⟨Kw53,cw53_R⟩:=hW
            have q0:=cell_of_heap cw53_R 0
            have q1:=cell_of_heap cw53_R 1
            simp at q0 q1
            simp [results,Tryz.results107,go_sem,q0,q1]
          · obtain ⟨Kw53,cw53_R⟩:=hW
            have Rw53_U:=Lib.hid (Kw53.at Rw52_U.out (by simp [n_U_R]))
            have HCw53:=Lib.hid (HCw52.out.kp Kw53 (by simp [o0_R]) (by simp [n_c_R]) (by simp [n_mf_R]) (by simp [n_ms_R]) (by simp [n_mn_R]) (by simp [(off_R).2.2.2]))
            have HSw53:=Lib.hid (HSw52.out.loc Kw53 (by simp [o_R]))
            have Rw53_R:=Lib.hid cw53_R
            clear Kw53 cw53_R l_c l_R xR_0 xR_1 yR_0 yR_1 l_U xU_0 xU_1 yU_0 yU_1 l_mf l_ms l_mn Rw52_U HCw52 HSw52 Rw52_R
            exact ⟨_,_,rfl,.inr ⟨HMF.out,rfl,rfl⟩,HCw53.out,HSw53.out⟩

theorem of_0{K:CKey}(hK:CFix K){T:Nat→Prop}{ua:Option Addr}{uc:Nat}{st:NS}{w:World}(h:CK K T ua uc st w)(name:ByteArray)(h0:decide (0<st.fn)=false):
    Calls Tryz.prog 107 #[.pointer (some ⟨K.c,0,none⟩),.string name] w fun r w'=>r= .returned (.agg #[.int .i64 0,.string name])∧CK K T ua uc (seePut st (0,name)) w'∧CStep K T T w w':=by
  have HC0:=Lib.hid h;have HS0:=Lib.hid (CStep.refl K T w)
  clear h
  go_enter Tryz.func107,Tryz.ntmps107
  obtain ⟨l_c,xc_0,xc_1,xc_2,xc_3,xc_4,xc_5,xc_6,xc_7,xc_8,xc_9,xc_10,yc_0,yc_1,yc_2,yc_3,yc_4,yc_5,yc_6,yc_7,yc_8,yc_9,yc_10⟩:=cf11 HC0.out.row
  obtain ⟨-,l_mf,l_ms,l_mn⟩:=HC0.out.lt
  have l_mf_1:K.mf<w.heap.size+1:=Nat.lt_add_right 1 l_mf
  have l_ms_1:K.ms<w.heap.size+1:=Nat.lt_add_right 1 l_ms
  have l_mn_1:K.mn<w.heap.size+1:=Nat.lt_add_right 1 l_mn
  have l_c_1:K.c<w.heap.size+1:=Nat.lt_add_right 1 l_c
  go_upto_region 9 with fail
  refine wp_at (fun W=>Keeps [] w W∧W.heap[w.heap.size]? =some (.cells #[.int .i64 0,.string ⟨#[]⟩] 137 (0,0))∧W.heap[w.heap.size+1]? =some (.cells #[.int .i64 0,.string name] 137 (0,0))) ⟨(by with_reducible repeat (first|exact k0 _ _|refine kA ?_ _|refine kD ?_|refine kS ?_ (by simp)|refine kM ?_ (by simp))),(by simp only [hS,hA,hD,hM,World.size_alloc,World.size_setCell,World.size_drew,size_mset,Nat.add_right_cancel_iff,Nat.left_eq_add,Nat.add_eq_left,Nat.reduceEqDiff,Nat.add_assoc,Nat.reduceAdd,Nat.one_ne_zero,Nat.zero_ne_one,reduceIte,Option.map_some,Obj.put]<;>rfl),(by simp only [hS,hA,hD,hM,World.size_alloc,World.size_setCell,World.size_drew,size_mset,Nat.add_right_cancel_iff,Nat.left_eq_add,Nat.add_eq_left,Nat.reduceEqDiff,Nat.add_assoc,Nat.reduceAdd,Nat.one_ne_zero,Nat.zero_ne_one,reduceIte,Option.map_some,Obj.put]<;>rfl)⟩ ?_
  rintro w1 ⟨Kw1,cw1_R,cw1_U⟩
  have n_c_R:K.c≠w.heap.size:=Nat.ne_of_lt l_c
  have n_R_c:w.heap.size≠K.c:=Nat.ne_of_gt l_c
  have n_mf_R:K.mf≠w.heap.size:=Nat.ne_of_lt l_mf
  have n_R_mf:w.heap.size≠K.mf:=Nat.ne_of_gt l_mf
  have n_ms_R:K.ms≠w.heap.size:=Nat.ne_of_lt l_ms
  have n_R_ms:w.heap.size≠K.ms:=Nat.ne_of_gt l_ms
  have n_mn_R:K.mn≠w.heap.size:=Nat.ne_of_lt l_mn
  have n_R_mn:w.heap.size≠K.mn:=Nat.ne_of_gt l_mn
  have o_R:w.heap.size≤w.heap.size:=Nat.le_refl _
  have off_R:Off K T (w.heap.size):=off_new HC0.out (Nat.le_refl _)
  have o0_R:K.w0.heap.size≤w.heap.size:=Nat.le_trans HC0.out.keep.size (Nat.le_refl _)
  have n_c_U:K.c≠w.heap.size+1:=Nat.ne_of_lt (Nat.lt_add_right 1 l_c)
  have n_U_c:w.heap.size+1≠K.c:=Nat.ne_of_gt (Nat.lt_add_right 1 l_c)
  have n_mf_U:K.mf≠w.heap.size+1:=Nat.ne_of_lt (Nat.lt_add_right 1 l_mf)
  have n_U_mf:w.heap.size+1≠K.mf:=Nat.ne_of_gt (Nat.lt_add_right 1 l_mf)
  have n_ms_U:K.ms≠w.heap.size+1:=Nat.ne_of_lt (Nat.lt_add_right 1 l_ms)
  have n_U_ms:w.heap.size+1≠K.ms:=Nat.ne_of_gt (Nat.lt_add_right 1 l_ms)
  have n_mn_U:K.mn≠w.heap.size+1:=Nat.ne_of_lt (Nat.lt_add_right 1 l_mn)
  have n_U_mn:w.heap.size+1≠K.mn:=Nat.ne_of_gt (Nat.lt_add_right 1 l_mn)
  have n_R_U:w.heap.size≠w.heap.size+1:=by simp
  have n_U_R:w.heap.size+1≠w.heap.size:=by simp
  have o_U:w.heap.size≤w.heap.size+1:=Nat.le_trans (Nat.le_refl _) (Nat.le_add_right _ 1)
  have off_U:Off K T (w.heap.size+1):=off_new HC0.out (Nat.le_add_right _ 1)
  have o0_U:K.w0.heap.size≤w.heap.size+1:=Nat.le_trans HC0.out.keep.size (Nat.le_add_right _ 1)
  have HCw1:=Lib.hid (HC0.out.kp0 Kw1)
  have HSw1:=Lib.hid (HS0.out.loc Kw1 (by simp))
  have Rw1_R:=Lib.hid cw1_R
  have Rw1_U:=Lib.hid cw1_U
  clear Kw1 cw1_R cw1_U l_c l_c_1 xc_0 xc_1 xc_2 xc_3 xc_4 xc_5 xc_6 xc_7 xc_8 xc_9 xc_10 yc_0 yc_1 yc_2 yc_3 yc_4 yc_5 yc_6 yc_7 yc_8 yc_9 yc_10 l_mf_1 l_ms_1 l_mn_1 l_mf l_ms l_mn HC0 HS0
  obtain ⟨l_c,xc_0,xc_1,xc_2,xc_3,xc_4,xc_5,xc_6,xc_7,xc_8,xc_9,xc_10,yc_0,yc_1,yc_2,yc_3,yc_4,yc_5,yc_6,yc_7,yc_8,yc_9,yc_10⟩:=cf11 HCw1.out.row
  obtain ⟨-,l_mf,l_ms,l_mn⟩:=HCw1.out.lt
  have l_R:=h_lt Rw1_R.out
  obtain ⟨l_U,xU_0,xU_1,yU_0,yU_1⟩:=cf2 Rw1_U.out
  obtain ⟨es,ek,hes,hes2⟩:=HCw1.out.seen
  have HEB:=Lib.hid hes;have HES:=Lib.hid hes2
  clear hes hes2
  have hup:(Instr.mapUpdate 89 (.map (some K.mn)) (.agg #[.int .i64 (0),.string name]) (.agg #[])).run Tryz.prog w1.drew= .ok () (mset w1.drew K.mn (.map (ents tval (kput ((0,name):Thing) (.agg #[]) ek es).1) (kput ((0,name):Thing) (.agg #[]) ek es).2)):=run_see (K:=K) (W:=w1.drew) HEB.out (0) name
  go_cut [] (fun W=>Keeps [K.mn] w1 W∧W.heap[K.mn]? =some (.map (ents tval (kput ((0,name):Thing) (.agg #[]) ek es).1) (kput ((0,name):Thing) (.agg #[]) ek es).2))
  case first=>
    go_region
    all_goals
      go_wp2_with fail
      go_meet
      case rel=>exact ⟨(by with_reducible repeat (first|exact k0 _ _|refine kA ?_ _|refine kD ?_|refine kS ?_ (by simp)|refine kM ?_ (by simp))),(by simp only [hS,hA,hD,hM,reduceIte,Option.map_some,HEB.out]<;>rfl)⟩
  case rest=>
    obtain ⟨Kw2,cc_mn⟩:=hcut
    generalize wc=w2 at*
    have cw2_mn:=cc_mn
    clear cc_mn hup
    have Rw2_R:=Lib.hid (Kw2.at Rw1_R.out (by simp [n_R_mn]))
    have Rw2_U:=Lib.hid (Kw2.at Rw1_U.out (by simp [n_U_mn]))
    have HCw2:Hid (CK K T ua uc (seePut st (0,name)) w2):=Lib.hid (HCw1.out.see hK (0,name) HES.out Kw2 cw2_mn)
    have HSw2:=Lib.hid (HSw1.out.mn Kw2)
    have Rw2_mn:=Lib.hid cw2_mn
    clear Kw2 cw2_mn l_c xc_0 xc_1 xc_2 xc_3 xc_4 xc_5 xc_6 xc_7 xc_8 xc_9 xc_10 yc_0 yc_1 yc_2 yc_3 yc_4 yc_5 yc_6 yc_7 yc_8 yc_9 yc_10 l_R l_U xU_0 xU_1 yU_0 yU_1 l_mf l_ms l_mn Rw1_R Rw1_U HCw1 HSw1
    obtain ⟨l_c,l_mf,l_ms,l_mn⟩:=HCw2.out.lt
    obtain ⟨l_R,xR_0,xR_1,yR_0,yR_1⟩:=cf2 Rw2_R.out
    obtain ⟨l_U,xU_0,xU_1,yU_0,yU_1⟩:=cf2 Rw2_U.out
    go_wp2_with fail
    refine ret_at (v:= .agg #[.int .i64 0,.string name]) (fun W=>Keeps [w.heap.size] w2 W∧W.heap[w.heap.size]? =some (.cells #[.int .i64 0,.string name] 137 (0,0))) ⟨(by with_reducible repeat (first|exact k0 _ _|refine kA ?_ _|refine kD ?_|refine kS ?_ (by simp)|refine kM ?_ (by simp))),(by simp only [hS,hA,hD,hM,reduceIte,Option.map_some,Obj.put,Rw2_R.out,Nat.ne_of_lt l_R,Nat.ne_of_gt l_R]<;>rfl)⟩ (fun w3 hW=> ?_) rfl (fun w3 hW=> ?_)
    · obtain ⟨Kw3,cw3_R⟩:=hW
      have q0:=cell_of_heap cw3_R 0
      have q1:=cell_of_heap cw3_R 1
      simp at q0 q1
      simp [results,Tryz.results107,go_sem,q0,q1]
    · obtain ⟨Kw3,cw3_R⟩:=hW
      have Rw3_U:=Lib.hid (Kw3.at Rw2_U.out (by simp [n_U_R]))
      have HCw3:=Lib.hid (HCw2.out.kp Kw3 (by simp [o0_R]) (by simp [n_c_R]) (by simp [n_mf_R]) (by simp [n_ms_R]) (by simp [n_mn_R]) (by simp [(off_R).2.2.2]))
      have HSw3:=Lib.hid (HSw2.out.loc Kw3 (by simp [o_R]))
      have Rw3_R:=Lib.hid cw3_R
      clear Kw3 cw3_R l_c l_R xR_0 xR_1 yR_0 yR_1 l_U xU_0 xU_1 yU_0 yU_1 l_mf l_ms l_mn Rw2_U HCw2 HSw2 Rw2_R
      exact ⟨rfl,HCw3.out,HSw3.out⟩
theorem of_any{K:CKey}(hK:CFix K){T:Nat→Prop}{ua:Option Addr}{uc:Nat}{st:NS}{w:World}(h:CK K T ua uc st w)(name:ByteArray):
    Calls Tryz.prog 107 #[.pointer (some ⟨K.c,0,none⟩),.string name] w fun r w'=>r= .returned (.agg #[.int .i64 (ofF K.g st name).1.1,.string (ofF K.g st name).1.2])∧CK K T ua uc (ofF K.g st name).2 w'∧CStep K T T w w':=by
  by_cases h0:st.fn=0
  · have e1:ofF K.g st name=((0,name),seePut st (0,name)):=by unfold ofF;rw [if_neg (by omega)]
    rw [e1]
    exact of_0 hK h name (by simp [h0])
  · obtain ⟨i,hfn⟩:∃i,st.fn=i+1:=⟨st.fn -1,by omega⟩
    have hi:i<K.g.funcs.length:=by have:=h.fn;omega
    have hp:paramsOf K.g st.fn=K.g.funcs[i].params:=by unfold paramsOf;rw [hfn,Nat.add_sub_cancel,List.getElem?_eq_getElem hi]
    refine (of_fn hK h name hfn hi).mono fun r w' ⟨a,st',hr,hm,hc,hs⟩=> ?_
    subst hr
    rcases hm with ⟨hm,rfl,rfl⟩|⟨hm,rfl,rfl⟩
    · have e1:ofF K.g st' name=((st'.fn,name),st'):=by unfold ofF;rw [if_pos ⟨by omega,by rw [hp];exact hm⟩]
      rw [e1];exact ⟨rfl,hc,hs⟩
    · have e1:ofF K.g st name=((0,name),seePut st (0,name)):=by unfold ofF;rw [if_neg (by rw [hp,hm];simp)]
      rw [e1];exact ⟨rfl,hc,hs⟩
end Go.Proofs.YteafcepaolofpaaGreatDoor
end
