/- Texts of this claim, joined: LevelsO, LevelsP. -/
import Derived.Test.YteafcepaolofpaaGreatDoorLevelsN
set_option maxRecDepth 100000
set_option maxHeartbeats 4000000
set_option linter.unusedSimpArgs false
set_option linter.unusedVariables false
set_option linter.unusedSectionVars false
section
/- begins, behind, outs, walked. Made by a program (parse.py, walk.py). -/
namespace Go.Proofs.YteafcepaolofpaaGreatDoor
open Go.RowKit

theorem begins_k2{s:ByteArray}{p:Nat}{st:PSt}{w:World}(h:PP s p st w){kd:Int}{tx:ByteArray}{nm fr te:Nat}(ht:nextF s st.pos true=some ⟨2,tx,nm,fr,te⟩)  :
    Calls Tryz.prog 203 #[.pointer (some ⟨p,0,none⟩)] w fun r w'=>r= .returned (.bool true)∧Keeps [] w w':=by
  have g_p:=h.p
  have HP0:=Lib.hid h;have HK0:=Lib.hid (Keeps.refl [] w);have HT:=Lib.hid ht

  clear h ht
  go_enter Tryz.func203,Tryz.ntmps203
  have l_p:=h_lt HP0.out.row
  go_wp2_with fail
  clear l_p
  refine (see_any HP0.out HT.out).mono ?_
  rintro r e1 ⟨rfl,hk⟩
  have HKe1:=Lib.hid (HK0.out.trans hk (by simp))
  have HPe1:=Lib.hid (HP0.out.keep hk)
  clear hk HK0 HP0
  have l_p:=h_lt HPe1.out.row
  go_wp2_with fail
  refine calls_at (fun W=>Keeps [] e1 W∧W.heap[e1.heap.size]? =some (.cells #[.int .i64 2,.string tx,.float .f64 nm,.int .i64 fr,.int .i64 te] 109 (0,0))) ⟨(by with_reducible repeat (first|exact k0 _ _|refine kA ?_ _|refine kD ?_|refine kS ?_ (by simp)|refine kM ?_ (by simp))),(by simp only [hS,hA,hD,hM,World.size_setCell,World.size_drew,reduceIte,Option.map_some,Obj.put]<;>rfl)⟩ ?_
  rintro w2 ⟨Kw2,cw2_T⟩
  have n_p_T:p≠e1.heap.size:=Nat.ne_of_lt l_p
  have n_T_p:e1.heap.size≠p:=Nat.ne_of_gt l_p
  have o_T:w.heap.size≤e1.heap.size:=HKe1.out.size
  have g_T:13<e1.heap.size:=Nat.lt_trans g_p l_p
  have HKw2:=Lib.hid (HKe1.out.trans Kw2 (by simp))
  have HPw2:=Lib.hid (HPe1.out.keep Kw2)
  have Rw2_T:=Lib.hid cw2_T
  clear Kw2 cw2_T l_p HKe1 HPe1
  refine (ok_any HPw2.out).mono ?_
  rintro r w' ⟨rfl,hw'⟩
  rw [hw']
  clear hw'
  have l_p:=h_lt HPw2.out.row
  have l_T:=h_lt Rw2_T.out
  go_wp2_with fail
  refine ret_at (v:= .bool true) (fun W=>Keeps [] w2 W) (by with_reducible repeat (first|exact k0 _ _|refine kA ?_ _|refine kD ?_|refine kS ?_ (by simp)|refine kM ?_ (by simp))) (fun w3 hW=> ?_) rfl (fun w3 hW=> ?_)
  · have Kw3:Keeps [] w2 w3:=hW
    simp [results,Tryz.results203,go_sem]
  · have Kw3:Keeps [] w2 w3:=hW
    have Rw3_T:=Lib.hid (Kw3.at Rw2_T.out (by simp))
    have HKw3:=Lib.hid (HKw2.out.trans Kw3 (by simp))
    have HPw3:=Lib.hid (HPw2.out.keep Kw3)
    clear Kw3 l_p l_T Rw2_T HKw2 HPw2
    exact ⟨rfl,HKw3.out⟩

theorem begins_k3{s:ByteArray}{p:Nat}{st:PSt}{w:World}(h:PP s p st w){kd:Int}{tx:ByteArray}{nm fr te:Nat}(ht:nextF s st.pos true=some ⟨3,tx,nm,fr,te⟩)  :
    Calls Tryz.prog 203 #[.pointer (some ⟨p,0,none⟩)] w fun r w'=>r= .returned (.bool true)∧Keeps [] w w':=by
  have g_p:=h.p
  have HP0:=Lib.hid h;have HK0:=Lib.hid (Keeps.refl [] w);have HT:=Lib.hid ht

  clear h ht
  go_enter Tryz.func203,Tryz.ntmps203
  have l_p:=h_lt HP0.out.row
  go_wp2_with fail
  clear l_p
  refine (see_any HP0.out HT.out).mono ?_
  rintro r e1 ⟨rfl,hk⟩
  have HKe1:=Lib.hid (HK0.out.trans hk (by simp))
  have HPe1:=Lib.hid (HP0.out.keep hk)
  clear hk HK0 HP0
  have l_p:=h_lt HPe1.out.row
  go_wp2_with fail
  refine calls_at (fun W=>Keeps [] e1 W∧W.heap[e1.heap.size]? =some (.cells #[.int .i64 3,.string tx,.float .f64 nm,.int .i64 fr,.int .i64 te] 109 (0,0))) ⟨(by with_reducible repeat (first|exact k0 _ _|refine kA ?_ _|refine kD ?_|refine kS ?_ (by simp)|refine kM ?_ (by simp))),(by simp only [hS,hA,hD,hM,World.size_setCell,World.size_drew,reduceIte,Option.map_some,Obj.put]<;>rfl)⟩ ?_
  rintro w2 ⟨Kw2,cw2_T⟩
  have n_p_T:p≠e1.heap.size:=Nat.ne_of_lt l_p
  have n_T_p:e1.heap.size≠p:=Nat.ne_of_gt l_p
  have o_T:w.heap.size≤e1.heap.size:=HKe1.out.size
  have g_T:13<e1.heap.size:=Nat.lt_trans g_p l_p
  have HKw2:=Lib.hid (HKe1.out.trans Kw2 (by simp))
  have HPw2:=Lib.hid (HPe1.out.keep Kw2)
  have Rw2_T:=Lib.hid cw2_T
  clear Kw2 cw2_T l_p HKe1 HPe1
  refine (ok_any HPw2.out).mono ?_
  rintro r w' ⟨rfl,hw'⟩
  rw [hw']
  clear hw'
  have l_p:=h_lt HPw2.out.row
  have l_T:=h_lt Rw2_T.out
  go_wp2_with fail
  refine ret_at (v:= .bool true) (fun W=>Keeps [] w2 W) (by with_reducible repeat (first|exact k0 _ _|refine kA ?_ _|refine kD ?_|refine kS ?_ (by simp)|refine kM ?_ (by simp))) (fun w3 hW=> ?_) rfl (fun w3 hW=> ?_)
  · have Kw3:Keeps [] w2 w3:=hW
    simp [results,Tryz.results203,go_sem]
  · have Kw3:Keeps [] w2 w3:=hW
    have Rw3_T:=Lib.hid (Kw3.at Rw2_T.out (by simp))
    have HKw3:=Lib.hid (HKw2.out.trans Kw3 (by simp))
    have HPw3:=Lib.hid (HPw2.out.keep Kw3)
    clear Kw3 l_p l_T Rw2_T HKw2 HPw2
    exact ⟨rfl,HKw3.out⟩

theorem begins_k5{s:ByteArray}{p:Nat}{st:PSt}{w:World}(h:PP s p st w){kd:Int}{tx:ByteArray}{nm fr te:Nat}(ht:nextF s st.pos true=some ⟨5,tx,nm,fr,te⟩)  :
    Calls Tryz.prog 203 #[.pointer (some ⟨p,0,none⟩)] w fun r w'=>r= .returned (.bool true)∧Keeps [] w w':=by
  have g_p:=h.p
  have HP0:=Lib.hid h;have HK0:=Lib.hid (Keeps.refl [] w);have HT:=Lib.hid ht

  clear h ht
  go_enter Tryz.func203,Tryz.ntmps203
  have l_p:=h_lt HP0.out.row
  go_wp2_with fail
  clear l_p
  refine (see_any HP0.out HT.out).mono ?_
  rintro r e1 ⟨rfl,hk⟩
  have HKe1:=Lib.hid (HK0.out.trans hk (by simp))
  have HPe1:=Lib.hid (HP0.out.keep hk)
  clear hk HK0 HP0
  have l_p:=h_lt HPe1.out.row
  go_wp2_with fail
  refine calls_at (fun W=>Keeps [] e1 W∧W.heap[e1.heap.size]? =some (.cells #[.int .i64 5,.string tx,.float .f64 nm,.int .i64 fr,.int .i64 te] 109 (0,0))) ⟨(by with_reducible repeat (first|exact k0 _ _|refine kA ?_ _|refine kD ?_|refine kS ?_ (by simp)|refine kM ?_ (by simp))),(by simp only [hS,hA,hD,hM,World.size_setCell,World.size_drew,reduceIte,Option.map_some,Obj.put]<;>rfl)⟩ ?_
  rintro w2 ⟨Kw2,cw2_T⟩
  have n_p_T:p≠e1.heap.size:=Nat.ne_of_lt l_p
  have n_T_p:e1.heap.size≠p:=Nat.ne_of_gt l_p
  have o_T:w.heap.size≤e1.heap.size:=HKe1.out.size
  have g_T:13<e1.heap.size:=Nat.lt_trans g_p l_p
  have HKw2:=Lib.hid (HKe1.out.trans Kw2 (by simp))
  have HPw2:=Lib.hid (HPe1.out.keep Kw2)
  have Rw2_T:=Lib.hid cw2_T
  clear Kw2 cw2_T l_p HKe1 HPe1
  refine (ok_any HPw2.out).mono ?_
  rintro r w' ⟨rfl,hw'⟩
  rw [hw']
  clear hw'
  have l_p:=h_lt HPw2.out.row
  have l_T:=h_lt Rw2_T.out
  go_wp2_with fail
  refine ret_at (v:= .bool true) (fun W=>Keeps [] w2 W) (by with_reducible repeat (first|exact k0 _ _|refine kA ?_ _|refine kD ?_|refine kS ?_ (by simp)|refine kM ?_ (by simp))) (fun w3 hW=> ?_) rfl (fun w3 hW=> ?_)
  · have Kw3:Keeps [] w2 w3:=hW
    simp [results,Tryz.results203,go_sem]
  · have Kw3:Keeps [] w2 w3:=hW
    have Rw3_T:=Lib.hid (Kw3.at Rw2_T.out (by simp))
    have HKw3:=Lib.hid (HKw2.out.trans Kw3 (by simp))
    have HPw3:=Lib.hid (HPw2.out.keep Kw3)
    clear Kw3 l_p l_T Rw2_T HKw2 HPw2
    exact ⟨rfl,HKw3.out⟩

theorem begins_k6{s:ByteArray}{p:Nat}{st:PSt}{w:World}(h:PP s p st w){kd:Int}{tx:ByteArray}{nm fr te:Nat}(ht:nextF s st.pos true=some ⟨6,tx,nm,fr,te⟩)  :
    Calls Tryz.prog 203 #[.pointer (some ⟨p,0,none⟩)] w fun r w'=>r= .returned (.bool true)∧Keeps [] w w':=by
  have g_p:=h.p
  have HP0:=Lib.hid h;have HK0:=Lib.hid (Keeps.refl [] w);have HT:=Lib.hid ht

  clear h ht
  go_enter Tryz.func203,Tryz.ntmps203
  have l_p:=h_lt HP0.out.row
  go_wp2_with fail
  clear l_p
  refine (see_any HP0.out HT.out).mono ?_
  rintro r e1 ⟨rfl,hk⟩
  have HKe1:=Lib.hid (HK0.out.trans hk (by simp))
  have HPe1:=Lib.hid (HP0.out.keep hk)
  clear hk HK0 HP0
  have l_p:=h_lt HPe1.out.row
  go_wp2_with fail
  refine calls_at (fun W=>Keeps [] e1 W∧W.heap[e1.heap.size]? =some (.cells #[.int .i64 6,.string tx,.float .f64 nm,.int .i64 fr,.int .i64 te] 109 (0,0))) ⟨(by with_reducible repeat (first|exact k0 _ _|refine kA ?_ _|refine kD ?_|refine kS ?_ (by simp)|refine kM ?_ (by simp))),(by simp only [hS,hA,hD,hM,World.size_setCell,World.size_drew,reduceIte,Option.map_some,Obj.put]<;>rfl)⟩ ?_
  rintro w2 ⟨Kw2,cw2_T⟩
  have n_p_T:p≠e1.heap.size:=Nat.ne_of_lt l_p
  have n_T_p:e1.heap.size≠p:=Nat.ne_of_gt l_p
  have o_T:w.heap.size≤e1.heap.size:=HKe1.out.size
  have g_T:13<e1.heap.size:=Nat.lt_trans g_p l_p
  have HKw2:=Lib.hid (HKe1.out.trans Kw2 (by simp))
  have HPw2:=Lib.hid (HPe1.out.keep Kw2)
  have Rw2_T:=Lib.hid cw2_T
  clear Kw2 cw2_T l_p HKe1 HPe1
  refine (ok_any HPw2.out).mono ?_
  rintro r w' ⟨rfl,hw'⟩
  rw [hw']
  clear hw'
  have l_p:=h_lt HPw2.out.row
  have l_T:=h_lt Rw2_T.out
  go_wp2_with fail
  refine ret_at (v:= .bool true) (fun W=>Keeps [] w2 W) (by with_reducible repeat (first|exact k0 _ _|refine kA ?_ _|refine kD ?_|refine kS ?_ (by simp)|refine kM ?_ (by simp))) (fun w3 hW=> ?_) rfl (fun w3 hW=> ?_)
  · have Kw3:Keeps [] w2 w3:=hW
    simp [results,Tryz.results203,go_sem]
  · have Kw3:Keeps [] w2 w3:=hW
    have Rw3_T:=Lib.hid (Kw3.at Rw2_T.out (by simp))
    have HKw3:=Lib.hid (HKw2.out.trans Kw3 (by simp))
    have HPw3:=Lib.hid (HPw2.out.keep Kw3)
    clear Kw3 l_p l_T Rw2_T HKw2 HPw2
    exact ⟨rfl,HKw3.out⟩

theorem begins_k7{s:ByteArray}{p:Nat}{st:PSt}{w:World}(h:PP s p st w){kd:Int}{tx:ByteArray}{nm fr te:Nat}(ht:nextF s st.pos true=some ⟨7,tx,nm,fr,te⟩)  :
    Calls Tryz.prog 203 #[.pointer (some ⟨p,0,none⟩)] w fun r w'=>r= .returned (.bool true)∧Keeps [] w w':=by
  have g_p:=h.p
  have HP0:=Lib.hid h;have HK0:=Lib.hid (Keeps.refl [] w);have HT:=Lib.hid ht

  clear h ht
  go_enter Tryz.func203,Tryz.ntmps203
  have l_p:=h_lt HP0.out.row
  go_wp2_with fail
  clear l_p
  refine (see_any HP0.out HT.out).mono ?_
  rintro r e1 ⟨rfl,hk⟩
  have HKe1:=Lib.hid (HK0.out.trans hk (by simp))
  have HPe1:=Lib.hid (HP0.out.keep hk)
  clear hk HK0 HP0
  have l_p:=h_lt HPe1.out.row
  go_wp2_with fail
  refine calls_at (fun W=>Keeps [] e1 W∧W.heap[e1.heap.size]? =some (.cells #[.int .i64 7,.string tx,.float .f64 nm,.int .i64 fr,.int .i64 te] 109 (0,0))) ⟨(by with_reducible repeat (first|exact k0 _ _|refine kA ?_ _|refine kD ?_|refine kS ?_ (by simp)|refine kM ?_ (by simp))),(by simp only [hS,hA,hD,hM,World.size_setCell,World.size_drew,reduceIte,Option.map_some,Obj.put]<;>rfl)⟩ ?_
  rintro w2 ⟨Kw2,cw2_T⟩
  have n_p_T:p≠e1.heap.size:=Nat.ne_of_lt l_p
  have n_T_p:e1.heap.size≠p:=Nat.ne_of_gt l_p
  have o_T:w.heap.size≤e1.heap.size:=HKe1.out.size
  have g_T:13<e1.heap.size:=Nat.lt_trans g_p l_p
  have HKw2:=Lib.hid (HKe1.out.trans Kw2 (by simp))
  have HPw2:=Lib.hid (HPe1.out.keep Kw2)
  have Rw2_T:=Lib.hid cw2_T
  clear Kw2 cw2_T l_p HKe1 HPe1
  refine (ok_any HPw2.out).mono ?_
  rintro r w' ⟨rfl,hw'⟩
  rw [hw']
  clear hw'
  have l_p:=h_lt HPw2.out.row
  have l_T:=h_lt Rw2_T.out
  go_wp2_with fail
  refine ret_at (v:= .bool true) (fun W=>Keeps [] w2 W) (by with_reducible repeat (first|exact k0 _ _|refine kA ?_ _|refine kD ?_|refine kS ?_ (by simp)|refine kM ?_ (by simp))) (fun w3 hW=> ?_) rfl (fun w3 hW=> ?_)
  · have Kw3:Keeps [] w2 w3:=hW
    simp [results,Tryz.results203,go_sem]
  · have Kw3:Keeps [] w2 w3:=hW
    have Rw3_T:=Lib.hid (Kw3.at Rw2_T.out (by simp))
    have HKw3:=Lib.hid (HKw2.out.trans Kw3 (by simp))
    have HPw3:=Lib.hid (HPw2.out.keep Kw3)
    clear Kw3 l_p l_T Rw2_T HKw2 HPw2
    exact ⟨rfl,HKw3.out⟩

theorem begins_k9{s:ByteArray}{p:Nat}{st:PSt}{w:World}(h:PP s p st w){kd:Int}{tx:ByteArray}{nm fr te:Nat}(ht:nextF s st.pos true=some ⟨9,tx,nm,fr,te⟩)  :
    Calls Tryz.prog 203 #[.pointer (some ⟨p,0,none⟩)] w fun r w'=>r= .returned (.bool (among ⟨#[36,32,40,32,43,43,32,45,45,32,43,32,45,32,33]⟩ tx))∧Keeps [] w w':=by
  have g_p:=h.p
  have HP0:=Lib.hid h;have HK0:=Lib.hid (Keeps.refl [] w);have HT:=Lib.hid ht
  have HA:=Lib.hid (fun W=>among_any ⟨#[36,32,40,32,43,43,32,45,45,32,43,32,45,32,33]⟩ tx (by decide) W)
  clear h ht
  go_enter Tryz.func203,Tryz.ntmps203
  have l_p:=h_lt HP0.out.row
  go_wp2_with fail
  clear l_p
  refine (see_any HP0.out HT.out).mono ?_
  rintro r e1 ⟨rfl,hk⟩
  have HKe1:=Lib.hid (HK0.out.trans hk (by simp))
  have HPe1:=Lib.hid (HP0.out.keep hk)
  clear hk HK0 HP0
  have l_p:=h_lt HPe1.out.row
  go_wp2_with fail
  refine calls_at (fun W=>Keeps [] e1 W∧W.heap[e1.heap.size]? =some (.cells #[.int .i64 9,.string tx,.float .f64 nm,.int .i64 fr,.int .i64 te] 109 (0,0))) ⟨(by with_reducible repeat (first|exact k0 _ _|refine kA ?_ _|refine kD ?_|refine kS ?_ (by simp)|refine kM ?_ (by simp))),(by simp only [hS,hA,hD,hM,World.size_setCell,World.size_drew,reduceIte,Option.map_some,Obj.put]<;>rfl)⟩ ?_
  rintro w2 ⟨Kw2,cw2_T⟩
  have n_p_T:p≠e1.heap.size:=Nat.ne_of_lt l_p
  have n_T_p:e1.heap.size≠p:=Nat.ne_of_gt l_p
  have o_T:w.heap.size≤e1.heap.size:=HKe1.out.size
  have g_T:13<e1.heap.size:=Nat.lt_trans g_p l_p
  have HKw2:=Lib.hid (HKe1.out.trans Kw2 (by simp))
  have HPw2:=Lib.hid (HPe1.out.keep Kw2)
  have Rw2_T:=Lib.hid cw2_T
  clear Kw2 cw2_T l_p HKe1 HPe1
  refine (ok_any HPw2.out).mono ?_
  rintro r w' ⟨rfl,hw'⟩
  rw [hw']
  clear hw'
  have l_p:=h_lt HPw2.out.row
  obtain ⟨l_T,xT_0,xT_1,xT_2,xT_3,xT_4,yT_0,yT_1,yT_2,yT_3,yT_4⟩:=cf5 Rw2_T.out
  go_wp2_with fail
  clear l_p l_T xT_0 xT_1 xT_2 xT_3 xT_4 yT_0 yT_1 yT_2 yT_3 yT_4
  refine (HA.out _).mono ?_
  rintro r w' ⟨rfl,hw'⟩
  rw [hw']
  clear hw'
  have l_p:=h_lt HPw2.out.row
  have l_T:=h_lt Rw2_T.out
  go_wp2_with fail
  refine ret_at (v:= .bool (among ⟨#[36,32,40,32,43,43,32,45,45,32,43,32,45,32,33]⟩ tx)) (fun W=>Keeps [] w2 W) (by with_reducible repeat (first|exact k0 _ _|refine kA ?_ _|refine kD ?_|refine kS ?_ (by simp)|refine kM ?_ (by simp))) (fun w3 hW=> ?_) rfl (fun w3 hW=> ?_)
  · have Kw3:Keeps [] w2 w3:=hW
    simp [results,Tryz.results203,go_sem]
  · have Kw3:Keeps [] w2 w3:=hW
    have Rw3_T:=Lib.hid (Kw3.at Rw2_T.out (by simp))
    have HKw3:=Lib.hid (HKw2.out.trans Kw3 (by simp))
    have HPw3:=Lib.hid (HPw2.out.keep Kw3)
    clear Kw3 l_p l_T Rw2_T HKw2 HPw2
    exact ⟨rfl,HKw3.out⟩

theorem begins_else{s:ByteArray}{p:Nat}{st:PSt}{w:World}(h:PP s p st w){kd:Int}{tx:ByteArray}{nm fr te:Nat}(ht:nextF s st.pos true=some ⟨kd,tx,nm,fr,te⟩)(n2:(kd==2)=false)(n3:(kd==3)=false)(n4:(kd==4)=false)(n5:(kd==5)=false)(n6:(kd==6)=false)(n7:(kd==7)=false)(n9:(kd==9)=false):
    Calls Tryz.prog 203 #[.pointer (some ⟨p,0,none⟩)] w fun r w'=>r= .returned (.bool false)∧Keeps [] w w':=by
  have g_p:=h.p
  have HP0:=Lib.hid h;have HK0:=Lib.hid (Keeps.refl [] w);have HT:=Lib.hid ht

  clear h ht
  go_enter Tryz.func203,Tryz.ntmps203
  have l_p:=h_lt HP0.out.row
  go_wp2_with fail
  clear l_p
  refine (see_any HP0.out HT.out).mono ?_
  rintro r e1 ⟨rfl,hk⟩
  have HKe1:=Lib.hid (HK0.out.trans hk (by simp))
  have HPe1:=Lib.hid (HP0.out.keep hk)
  clear hk HK0 HP0
  have l_p:=h_lt HPe1.out.row
  go_wp2_with fail
  refine ret_at (v:= .bool false) (fun W=>Keeps [] e1 W∧W.heap[e1.heap.size]? =some (.cells #[.int .i64 kd,.string tx,.float .f64 nm,.int .i64 fr,.int .i64 te] 109 (0,0))) ⟨(by with_reducible repeat (first|exact k0 _ _|refine kA ?_ _|refine kD ?_|refine kS ?_ (by simp)|refine kM ?_ (by simp))),(by simp only [hS,hA,hD,hM,World.size_setCell,World.size_drew,reduceIte,Option.map_some,Obj.put]<;>rfl)⟩ (fun w2 hW=> ?_) rfl (fun w2 hW=> ?_)
  · obtain ⟨Kw2,cw2_T⟩:=hW
    simp [results,Tryz.results203,go_sem]
  · obtain ⟨Kw2,cw2_T⟩:=hW
    have n_p_T:p≠e1.heap.size:=Nat.ne_of_lt l_p
    have n_T_p:e1.heap.size≠p:=Nat.ne_of_gt l_p
    have o_T:w.heap.size≤e1.heap.size:=HKe1.out.size
    have g_T:13<e1.heap.size:=Nat.lt_trans g_p l_p
    have HKw2:=Lib.hid (HKe1.out.trans Kw2 (by simp))
    have HPw2:=Lib.hid (HPe1.out.keep Kw2)
    have Rw2_T:=Lib.hid cw2_T
    clear Kw2 cw2_T l_p HKe1 HPe1
    exact ⟨rfl,HKw2.out⟩

theorem begins_any{s:ByteArray}{p:Nat}{st:PSt}{w:World}(h:PP s p st w){b:Bool}(hx:beginsF s st=some b):
    Calls Tryz.prog 203 #[.pointer (some ⟨p,0,none⟩)] w fun r w'=>r= .returned (.bool b)∧Keeps [] w w':=by
  unfold beginsF at hx
  cases ht:nextF s st.pos true with
  |none=>rw [ht] at hx;simp at hx
  | some t=>
    rw [ht] at hx
    obtain ⟨kd,tx,nm,fr,te⟩:=t
    simp only [Option.bind_eq_bind,Option.bind_some] at hx
    by_cases h4:kd=4
    · rw [if_pos h4] at hx;cases hx
    rw [if_neg h4] at hx
    by_cases h5:kd=2∨kd=3∨kd=5∨kd=6∨kd=7
    · rw [if_pos h5] at hx
      obtain rfl:=Option.some.inj hx
      rcases h5 with rfl|rfl|rfl|rfl|rfl
      · exact begins_k2 (kd:=0) h ht
      · exact begins_k3 (kd:=0) h ht
      · exact begins_k5 (kd:=0) h ht
      · exact begins_k6 (kd:=0) h ht
      · exact begins_k7 (kd:=0) h ht
    · rw [if_neg h5] at hx
      by_cases h9:kd=9
      · subst h9
        rw [if_pos rfl] at hx
        obtain rfl:=Option.some.inj hx
        exact begins_k9 (kd:=0) h ht
      · rw [if_neg h9] at hx
        obtain rfl:=Option.some.inj hx
        simp only [not_or] at h5
        exact begins_else h ht (beq_false_of_ne h5.1) (beq_false_of_ne h5.2.1) (beq_false_of_ne h4) (beq_false_of_ne h5.2.2.1) (beq_false_of_ne h5.2.2.2.1) (beq_false_of_ne h5.2.2.2.2) (beq_false_of_ne h9)

theorem behind_any{s:ByteArray}{p:Nat}{st:PSt}{w:World}(h:PP s p st w)(hx:notF s st ⟨#[62]⟩=some ()):
    Calls Tryz.prog 205 #[.pointer (some ⟨p,0,none⟩)] w fun r w'=>r= .returned (.tuple #[])∧Keeps [] w w':=by
  have g_p:=h.p
  have HP0:=Lib.hid h;have HK0:=Lib.hid (Keeps.refl [] w);have HX:=Lib.hid hx
  clear h hx
  go_enter Tryz.func205,Tryz.ntmps205
  have l_p:=h_lt HP0.out.row
  go_wp2_with fail
  clear l_p
  refine (is_not HP0.out HX.out).mono ?_
  rintro r e1 ⟨rfl,hk⟩
  have HKe1:=Lib.hid (HK0.out.trans hk (by simp))
  have HPe1:=Lib.hid (HP0.out.keep hk)
  clear hk HK0 HP0
  have l_p:=h_lt HPe1.out.row
  go_wp2_with fail
  refine end_at (v:= .tuple #[]) (fun W=>Keeps [] e1 W) (by with_reducible repeat (first|exact k0 _ _|refine kA ?_ _|refine kD ?_|refine kS ?_ (by simp)|refine kM ?_ (by simp))) (fun w2 hW=> ?_) rfl (fun w2 hW=> ?_)
  · have Kw2:Keeps [] e1 w2:=hW
    simp [results,Tryz.results205,go_sem]
  · have Kw2:Keeps [] e1 w2:=hW
    have HKw2:=Lib.hid (HKe1.out.trans Kw2 (by simp))
    have HPw2:=Lib.hid (HPe1.out.keep Kw2)
    clear Kw2 l_p HKe1 HPe1
    exact ⟨rfl,HKw2.out⟩

theorem take_not{s:ByteArray}{st:PSt}{x:ByteArray}(h:notF s st x=some ()):takeF s st x=some (false,st):=by
  unfold notF isF at h
  unfold takeF
  cases ht:nextF s st.pos false with
  |none=>rw [ht] at h;simp at h
  | some t=>
    rw [ht] at h
    simp only [Option.bind_eq_bind,Option.bind_some] at h⊢
    cases hb:isT t x
    · simp [hb]
    · rw [hb] at h;simp at h

end Go.Proofs.YteafcepaolofpaaGreatDoor
end
section
/- simple, walked. Made by a program (parse.py, walk.py). -/
namespace Go.Proofs.YteafcepaolofpaaGreatDoor
open Go.RowKit

theorem simple_next{s:ByteArray}{p:Nat}{st:PSt}{kd:Int}{tx:ByteArray}{nm fr te:Nat}(ht:nextF s st.pos true=some ⟨kd,tx,nm,fr,te⟩)(hn_break:notF s st ⟨#[98,114,101,97,107]⟩=some ())(hn_continue:notF s st ⟨#[99,111,110,116,105,110,117,101]⟩=some ()){st2:PSt}(hx:takeF s st ⟨#[110,101,120,116]⟩=some (true,st2)):Hands s p st st2 (.mk 38 ⟨#[]⟩ 0 [] (placeOf s fr).1 (placeOf s fr).2) 183:=by
  intro w h
  have g_p:=h.p
  have HP0:=Lib.hid h;have HK0:=Lib.hid (Keeps.refl [p] w);have HT:=Lib.hid ht;have HN_break:=Lib.hid (take_not hn_break);have HN_continue:=Lib.hid (take_not hn_continue);have HX:=Lib.hid hx
  clear h ht hn_break hn_continue hx
  go_enter Tryz.func183,Tryz.ntmps183
  have l_p:=h_lt HP0.out.row
  go_wp2_with fail
  refine calls_at (fun W=>Keeps [] w W∧W.heap[w.heap.size]? =some (.cells #[.int .i64 0,.string ⟨#[]⟩,.float .f64 0,.slice none 0 0,.complex .f64 0 0] 58 (0,0))) ⟨(by with_reducible repeat (first|exact k0 _ _|refine kA ?_ _|refine kD ?_|refine kS ?_ (by simp)|refine kM ?_ (by simp))),(by simp only [hS,hA,hD,hM,World.size_setCell,World.size_drew,reduceIte,Option.map_some,Obj.put]<;>rfl)⟩ ?_
  rintro w1 ⟨Kw1,cw1_R⟩
  have n_p_R:p≠w.heap.size:=Nat.ne_of_lt l_p
  have n_R_p:w.heap.size≠p:=Nat.ne_of_gt l_p
  have o_R:w.heap.size≤w.heap.size:=Nat.le_refl _
  have g_R:13<w.heap.size:=Nat.lt_trans g_p l_p
  have HKw1:=Lib.hid (HK0.out.trans Kw1 (by simp))
  have HPw1:=Lib.hid (HP0.out.keep Kw1)
  have Rw1_R:=Lib.hid cw1_R
  clear Kw1 cw1_R l_p HK0 HP0
  refine (here_any HPw1.out HT.out).mono ?_
  rintro r e2 ⟨rfl,hk⟩
  have Re2_R:=Lib.hid (hk.at Rw1_R.out (by simp))
  have HKe2:=Lib.hid (HKw1.out.trans hk (by simp))
  have HPe2:=Lib.hid (HPw1.out.keep hk)
  clear hk Rw1_R HKw1 HPw1
  have l_p:=h_lt HPe2.out.row
  have l_R:=h_lt Re2_R.out
  go_wp2_with fail
  refine calls_at (fun W=>Keeps [] e2 W∧W.heap[e2.heap.size]? =some (.cells #[.int .i64 kd,.string tx,.float .f64 nm,.int .i64 fr,.int .i64 te] 109 (0,0))) ⟨(by with_reducible repeat (first|exact k0 _ _|refine kA ?_ _|refine kD ?_|refine kS ?_ (by simp)|refine kM ?_ (by simp))),(by simp only [hS,hA,hD,hM,World.size_setCell,World.size_drew,reduceIte,Option.map_some,Obj.put]<;>rfl)⟩ ?_
  rintro w3 ⟨Kw3,cw3_T⟩
  have n_p_T:p≠e2.heap.size:=Nat.ne_of_lt l_p
  have n_T_p:e2.heap.size≠p:=Nat.ne_of_gt l_p
  have n_R_T:w.heap.size≠e2.heap.size:=Nat.ne_of_lt l_R
  have n_T_R:e2.heap.size≠w.heap.size:=Nat.ne_of_gt l_R
  have o_T:w.heap.size≤e2.heap.size:=HKe2.out.size
  have g_T:13<e2.heap.size:=Nat.lt_trans g_p l_p
  have Rw3_R:=Lib.hid (Kw3.at Re2_R.out (by simp))
  have HKw3:=Lib.hid (HKe2.out.trans Kw3 (by simp))
  have HPw3:=Lib.hid (HPe2.out.keep Kw3)
  have Rw3_T:=Lib.hid cw3_T
  clear Kw3 cw3_T l_p l_R Re2_R HKe2 HPe2
  refine (take_any HPw3.out HN_break.out).mono ?_
  rintro r e4 ⟨rfl,hp,hk⟩
  have Re4_R:=Lib.hid (hk.at Rw3_R.out (by simp [n_R_p]))
  have Re4_T:=Lib.hid (hk.at Rw3_T.out (by simp [n_T_p]))
  have HKe4:=Lib.hid (HKw3.out.trans hk (by simp))
  have HPne4:=Lib.hid hp
  clear hp
  clear hk Rw3_R Rw3_T HKw3 HPw3
  have l_p:=h_lt HPne4.out.row
  have l_R:=h_lt Re4_R.out
  have l_T:=h_lt Re4_T.out
  go_wp2_with fail
  clear l_p l_R l_T
  refine (take_any HPne4.out HN_continue.out).mono ?_
  rintro r e5 ⟨rfl,hp,hk⟩
  have Re5_R:=Lib.hid (hk.at Re4_R.out (by simp [n_R_p]))
  have Re5_T:=Lib.hid (hk.at Re4_T.out (by simp [n_T_p]))
  have HKe5:=Lib.hid (HKe4.out.trans hk (by simp))
  have HPne5:=Lib.hid hp
  clear hp
  clear hk Re4_R Re4_T HKe4 HPne4
  have l_p:=h_lt HPne5.out.row
  have l_R:=h_lt Re5_R.out
  have l_T:=h_lt Re5_T.out
  go_wp2_with fail
  clear l_p l_R l_T
  refine (take_any HPne5.out HX.out).mono ?_
  rintro r e6 ⟨rfl,hp,hk⟩
  have Re6_R:=Lib.hid (hk.at Re5_R.out (by simp [n_R_p]))
  have Re6_T:=Lib.hid (hk.at Re5_T.out (by simp [n_T_p]))
  have HKe6:=Lib.hid (HKe5.out.trans hk (by simp))
  have HPne6:=Lib.hid hp
  clear hp
  clear hk Re5_R Re5_T HKe5 HPne5
  have l_p:=h_lt HPne6.out.row
  obtain ⟨l_R,xR_0,xR_1,xR_2,xR_3,xR_4,yR_0,yR_1,yR_2,yR_3,yR_4⟩:=cf5 Re6_R.out
  have l_T:=h_lt Re6_T.out
  go_wp2_with fail
  refine ret_at (v:= .agg #[.int .i64 38,.string ⟨#[]⟩,.float .f64 0,.slice none 0 0,.complex .f64 (placeOf s fr).1 (placeOf s fr).2]) (fun W=>Keeps [w.heap.size] e6 W∧W.heap[w.heap.size]? =some (.cells #[.int .i64 38,.string ⟨#[]⟩,.float .f64 0,.slice none 0 0,.complex .f64 (placeOf s fr).1 (placeOf s fr).2] 58 (0,0))) ⟨(by with_reducible repeat (first|exact k0 _ _|refine kA ?_ _|refine kD ?_|refine kS ?_ (by simp)|refine kM ?_ (by simp))),(by simp only [hS,hA,hD,hM,reduceIte,Option.map_some,Obj.put,Re6_R.out,Nat.ne_of_lt l_R,Nat.ne_of_gt l_R]<;>rfl)⟩ (fun w7 hW=> ?_) rfl (fun w7 hW=> ?_)
  · obtain ⟨Kw7,cw7_R⟩:=hW
    have q0:=cell_of_heap cw7_R 0
    have q1:=cell_of_heap cw7_R 1
    have q2:=cell_of_heap cw7_R 2
    have q3:=cell_of_heap cw7_R 3
    have q4:=cell_of_heap cw7_R 4
    simp at q0 q1 q2 q3 q4
    simp [results,Tryz.results183,go_sem,q0,q1,q2,q3,q4]
  · obtain ⟨Kw7,cw7_R⟩:=hW
    have Rw7_T:=Lib.hid (Kw7.at Re6_T.out (by simp [n_T_R]))
    have HKw7:=Lib.hid (HKe6.out.trans Kw7 (by simp [o_R]))
    have HPw7:=Lib.hid (HPne6.out.keepN Kw7 (by simp [n_p_R]) (by simp [g_R]))
    have Rw7_R:=Lib.hid cw7_R
    clear Kw7 cw7_R l_p l_R xR_0 xR_1 xR_2 xR_3 xR_4 yR_0 yR_1 yR_2 yR_3 yR_4 l_T Re6_T HKe6 HPne6 Re6_R
    exact ⟨_,rfl,.mk .nil,HPw7.out,HKw7.out⟩

theorem simple_expr{s:ByteArray}{p:Nat}{st:PSt}{kd:Int}{tx:ByteArray}{nm fr te:Nat}(ht:nextF s st.pos true=some ⟨kd,tx,nm,fr,te⟩)(hn_break:notF s st ⟨#[98,114,101,97,107]⟩=some ())(hn_continue:notF s st ⟨#[99,111,110,116,105,110,117,101]⟩=some ())(hn_next:notF s st ⟨#[110,101,120,116]⟩=some ())(hn_exit:notF s st ⟨#[101,120,105,116]⟩=some ())(hn_return:notF s st ⟨#[114,101,116,117,114,110]⟩=some ())(hn_delete:notF s st ⟨#[100,101,108,101,116,101]⟩=some ())(hn_print:notF s st ⟨#[112,114,105,110,116]⟩=some ())(hn_printf:notF s st ⟨#[112,114,105,110,116,102]⟩=some ()){st2:PSt}{n:Node}(he:Hands s p st st2 n 130):Hands s p st st2 (.mk 44 ⟨#[]⟩ 0 [n] n.re n.im) 183:=by
  intro w h
  have g_p:=h.p
  have HP0:=Lib.hid h;have HK0:=Lib.hid (Keeps.refl [p] w);have HT:=Lib.hid ht;have HN_break:=Lib.hid (take_not hn_break);have HN_continue:=Lib.hid (take_not hn_continue);have HN_next:=Lib.hid (take_not hn_next);have HN_exit:=Lib.hid (take_not hn_exit);have HN_return:=Lib.hid (take_not hn_return);have HN_delete:=Lib.hid (take_not hn_delete);have HN_print:=Lib.hid (take_not hn_print);have HN_printf:=Lib.hid (take_not hn_printf);have HE:=Lib.hid he
  clear h ht hn_break hn_continue hn_next hn_exit hn_return hn_delete hn_print hn_printf he
  go_enter Tryz.func183,Tryz.ntmps183
  have l_p:=h_lt HP0.out.row
  go_wp2_with fail
  refine calls_at (fun W=>Keeps [] w W∧W.heap[w.heap.size]? =some (.cells #[.int .i64 0,.string ⟨#[]⟩,.float .f64 0,.slice none 0 0,.complex .f64 0 0] 58 (0,0))) ⟨(by with_reducible repeat (first|exact k0 _ _|refine kA ?_ _|refine kD ?_|refine kS ?_ (by simp)|refine kM ?_ (by simp))),(by simp only [hS,hA,hD,hM,World.size_setCell,World.size_drew,reduceIte,Option.map_some,Obj.put]<;>rfl)⟩ ?_
  rintro w1 ⟨Kw1,cw1_R⟩
  have n_p_R:p≠w.heap.size:=Nat.ne_of_lt l_p
  have n_R_p:w.heap.size≠p:=Nat.ne_of_gt l_p
  have o_R:w.heap.size≤w.heap.size:=Nat.le_refl _
  have g_R:13<w.heap.size:=Nat.lt_trans g_p l_p
  have HKw1:=Lib.hid (HK0.out.trans Kw1 (by simp))
  have HPw1:=Lib.hid (HP0.out.keep Kw1)
  have Rw1_R:=Lib.hid cw1_R
  clear Kw1 cw1_R l_p HK0 HP0
  refine (here_any HPw1.out HT.out).mono ?_
  rintro r e2 ⟨rfl,hk⟩
  have Re2_R:=Lib.hid (hk.at Rw1_R.out (by simp))
  have HKe2:=Lib.hid (HKw1.out.trans hk (by simp))
  have HPe2:=Lib.hid (HPw1.out.keep hk)
  clear hk Rw1_R HKw1 HPw1
  have l_p:=h_lt HPe2.out.row
  have l_R:=h_lt Re2_R.out
  go_wp2_with fail
  refine calls_at (fun W=>Keeps [] e2 W∧W.heap[e2.heap.size]? =some (.cells #[.int .i64 kd,.string tx,.float .f64 nm,.int .i64 fr,.int .i64 te] 109 (0,0))) ⟨(by with_reducible repeat (first|exact k0 _ _|refine kA ?_ _|refine kD ?_|refine kS ?_ (by simp)|refine kM ?_ (by simp))),(by simp only [hS,hA,hD,hM,World.size_setCell,World.size_drew,reduceIte,Option.map_some,Obj.put]<;>rfl)⟩ ?_
  rintro w3 ⟨Kw3,cw3_T⟩
  have n_p_T:p≠e2.heap.size:=Nat.ne_of_lt l_p
  have n_T_p:e2.heap.size≠p:=Nat.ne_of_gt l_p
  have n_R_T:w.heap.size≠e2.heap.size:=Nat.ne_of_lt l_R
  have n_T_R:e2.heap.size≠w.heap.size:=Nat.ne_of_gt l_R
  have o_T:w.heap.size≤e2.heap.size:=HKe2.out.size
  have g_T:13<e2.heap.size:=Nat.lt_trans g_p l_p
  have Rw3_R:=Lib.hid (Kw3.at Re2_R.out (by simp))
  have HKw3:=Lib.hid (HKe2.out.trans Kw3 (by simp))
  have HPw3:=Lib.hid (HPe2.out.keep Kw3)
  have Rw3_T:=Lib.hid cw3_T
  clear Kw3 cw3_T l_p l_R Re2_R HKe2 HPe2
  refine (take_any HPw3.out HN_break.out).mono ?_
  rintro r e4 ⟨rfl,hp,hk⟩
  have Re4_R:=Lib.hid (hk.at Rw3_R.out (by simp [n_R_p]))
  have Re4_T:=Lib.hid (hk.at Rw3_T.out (by simp [n_T_p]))
  have HKe4:=Lib.hid (HKw3.out.trans hk (by simp))
  have HPne4:=Lib.hid hp
  clear hp
  clear hk Rw3_R Rw3_T HKw3 HPw3
  have l_p:=h_lt HPne4.out.row
  have l_R:=h_lt Re4_R.out
  have l_T:=h_lt Re4_T.out
  go_wp2_with fail
  clear l_p l_R l_T
  refine (take_any HPne4.out HN_continue.out).mono ?_
  rintro r e5 ⟨rfl,hp,hk⟩
  have Re5_R:=Lib.hid (hk.at Re4_R.out (by simp [n_R_p]))
  have Re5_T:=Lib.hid (hk.at Re4_T.out (by simp [n_T_p]))
  have HKe5:=Lib.hid (HKe4.out.trans hk (by simp))
  have HPne5:=Lib.hid hp
  clear hp
  clear hk Re4_R Re4_T HKe4 HPne4
  have l_p:=h_lt HPne5.out.row
  have l_R:=h_lt Re5_R.out
  have l_T:=h_lt Re5_T.out
  go_wp2_with fail
  clear l_p l_R l_T
  refine (take_any HPne5.out HN_next.out).mono ?_
  rintro r e6 ⟨rfl,hp,hk⟩
  have Re6_R:=Lib.hid (hk.at Re5_R.out (by simp [n_R_p]))
  have Re6_T:=Lib.hid (hk.at Re5_T.out (by simp [n_T_p]))
  have HKe6:=Lib.hid (HKe5.out.trans hk (by simp))
  have HPne6:=Lib.hid hp
  clear hp
  clear hk Re5_R Re5_T HKe5 HPne5
  have l_p:=h_lt HPne6.out.row
  have l_R:=h_lt Re6_R.out
  have l_T:=h_lt Re6_T.out
  go_wp2_with fail
  clear l_p l_R l_T
  refine (take_any HPne6.out HN_exit.out).mono ?_
  rintro r e7 ⟨rfl,hp,hk⟩
  have Re7_R:=Lib.hid (hk.at Re6_R.out (by simp [n_R_p]))
  have Re7_T:=Lib.hid (hk.at Re6_T.out (by simp [n_T_p]))
  have HKe7:=Lib.hid (HKe6.out.trans hk (by simp))
  have HPne7:=Lib.hid hp
  clear hp
  clear hk Re6_R Re6_T HKe6 HPne6
  have l_p:=h_lt HPne7.out.row
  have l_R:=h_lt Re7_R.out
  have l_T:=h_lt Re7_T.out
  go_wp2_with fail
  clear l_p l_R l_T
  refine (take_any HPne7.out HN_return.out).mono ?_
  rintro r e8 ⟨rfl,hp,hk⟩
  have Re8_R:=Lib.hid (hk.at Re7_R.out (by simp [n_R_p]))
  have Re8_T:=Lib.hid (hk.at Re7_T.out (by simp [n_T_p]))
  have HKe8:=Lib.hid (HKe7.out.trans hk (by simp))
  have HPne8:=Lib.hid hp
  clear hp
  clear hk Re7_R Re7_T HKe7 HPne7
  have l_p:=h_lt HPne8.out.row
  have l_R:=h_lt Re8_R.out
  have l_T:=h_lt Re8_T.out
  go_wp2_with fail
  clear l_p l_R l_T
  refine (take_any HPne8.out HN_delete.out).mono ?_
  rintro r e9 ⟨rfl,hp,hk⟩
  have Re9_R:=Lib.hid (hk.at Re8_R.out (by simp [n_R_p]))
  have Re9_T:=Lib.hid (hk.at Re8_T.out (by simp [n_T_p]))
  have HKe9:=Lib.hid (HKe8.out.trans hk (by simp))
  have HPne9:=Lib.hid hp
  clear hp
  clear hk Re8_R Re8_T HKe8 HPne8
  have l_p:=h_lt HPne9.out.row
  have l_R:=h_lt Re9_R.out
  have l_T:=h_lt Re9_T.out
  go_wp2_with fail
  clear l_p l_R l_T
  refine (take_any HPne9.out HN_print.out).mono ?_
  rintro r e10 ⟨rfl,hp,hk⟩
  have Re10_R:=Lib.hid (hk.at Re9_R.out (by simp [n_R_p]))
  have Re10_T:=Lib.hid (hk.at Re9_T.out (by simp [n_T_p]))
  have HKe10:=Lib.hid (HKe9.out.trans hk (by simp))
  have HPne10:=Lib.hid hp
  clear hp
  clear hk Re9_R Re9_T HKe9 HPne9
  have l_p:=h_lt HPne10.out.row
  have l_R:=h_lt Re10_R.out
  have l_T:=h_lt Re10_T.out
  go_wp2_with fail
  clear l_p l_R l_T
  refine (take_any HPne10.out HN_printf.out).mono ?_
  rintro r e11 ⟨rfl,hp,hk⟩
  have Re11_R:=Lib.hid (hk.at Re10_R.out (by simp [n_R_p]))
  have Re11_T:=Lib.hid (hk.at Re10_T.out (by simp [n_T_p]))
  have HKe11:=Lib.hid (HKe10.out.trans hk (by simp))
  have HPne11:=Lib.hid hp
  clear hp
  clear hk Re10_R Re10_T HKe10 HPne10
  have l_p:=h_lt HPne11.out.row
  have l_R:=h_lt Re11_R.out
  have l_T:=h_lt Re11_T.out
  go_wp2_with fail
  clear l_p l_R l_T
  refine (HE.out _ HPne11.out).mono ?_
  rintro r e12 ⟨v,rfl,hn,hp,hk⟩
  have Re12_R:=Lib.hid (hk.at Re11_R.out (by simp [n_R_p]))
  have Re12_T:=Lib.hid (hk.at Re11_T.out (by simp [n_T_p]))
  have HKe12:=Lib.hid (HKe11.out.trans hk (by simp))
  have HPne12:=Lib.hid hp
  have ne12:=Lib.hid hn.seg
  have o_n:w.heap.size≤e11.heap.size:=HKe11.out.size
  have ns_n_p:¬(Seg e11.heap.size e12.heap.size) (p):=fun h=>Nat.not_lt_of_le h.1 (h_lt HPne11.out.row)
  have ns_n_R:¬(Seg e11.heap.size e12.heap.size) (w.heap.size):=fun h=>Nat.not_lt_of_le h.1 (h_lt Re11_R.out)
  have ns_n_T:¬(Seg e11.heap.size e12.heap.size) (e2.heap.size):=fun h=>Nat.not_lt_of_le h.1 (h_lt Re11_T.out)
  have up_n:∀g,(Seg e11.heap.size e12.heap.size) g→g<e12.heap.size:=fun _ h=>h.2
  have dn_n:∀g,(Seg e11.heap.size e12.heap.size) g→w.heap.size≤g:=fun _ h=>Nat.le_trans o_n h.1
  obtain ⟨nt,nm,na,nl,nc,nr,ni,rfl,-,-⟩:=hn.shape
  clear hn hp
  clear hk Re11_R Re11_T HKe11 HPne11
  have l_p:=h_lt HPne12.out.row
  have l_p_1:p<e12.heap.size+1:=Nat.lt_add_right 1 l_p
  obtain ⟨l_R,xR_0,xR_1,xR_2,xR_3,xR_4,yR_0,yR_1,yR_2,yR_3,yR_4⟩:=cf5 Re12_R.out
  have l_R_1:w.heap.size<e12.heap.size+1:=Nat.lt_add_right 1 l_R
  have l_T:=h_lt Re12_T.out
  have l_T_1:e2.heap.size<e12.heap.size+1:=Nat.lt_add_right 1 l_T
  go_wp2_with fail
  refine ret_at (v:= .agg #[.int .i64 44,.string ⟨#[]⟩,.float .f64 0,.slice (some ⟨e12.heap.size+1,0,none⟩) 1 1,.complex .f64 nr ni]) (fun W=>Keeps [w.heap.size] e12 W∧W.heap[w.heap.size]? =some (.cells #[.int .i64 44,.string ⟨#[]⟩,.float .f64 0,.slice (some ⟨e12.heap.size+1,0,none⟩) 1 1,.complex .f64 nr ni] 58 (0,0))∧W.heap[e12.heap.size]? =some (.cells #[.int .i64 n.kind,.string nt,.float .f64 nm,.slice na nl nc,.complex .f64 nr ni] 58 (0,0))∧W.heap[e12.heap.size+1]? =some (.cells #[.int .i64 n.kind,.string nt,.float .f64 nm,.slice na nl nc,.complex .f64 nr ni] 58 (0,0))) ⟨(by with_reducible repeat (first|exact k0 _ _|refine kA ?_ _|refine kD ?_|refine kS ?_ (by simp)|refine kM ?_ (by simp))),(by simp only [hS,hA,hD,hM,World.size_alloc,World.size_setCell,World.size_drew,size_mset,Nat.add_right_cancel_iff,Nat.left_eq_add,Nat.add_eq_left,Nat.reduceEqDiff,Nat.add_assoc,Nat.reduceAdd,Nat.one_ne_zero,Nat.zero_ne_one,reduceIte,Option.map_some,Obj.put,Re12_R.out,Nat.ne_of_lt l_R,Nat.ne_of_gt l_R,Nat.ne_of_lt (Nat.lt_add_right 1 l_R),Nat.ne_of_gt (Nat.lt_add_right 1 l_R)]<;>rfl),(by simp only [hS,hA,hD,hM,World.size_alloc,World.size_setCell,World.size_drew,size_mset,Nat.add_right_cancel_iff,Nat.left_eq_add,Nat.add_eq_left,Nat.reduceEqDiff,Nat.add_assoc,Nat.reduceAdd,Nat.one_ne_zero,Nat.zero_ne_one,reduceIte,Option.map_some,Obj.put,Re12_R.out,Nat.ne_of_lt l_R,Nat.ne_of_gt l_R,Nat.ne_of_lt (Nat.lt_add_right 1 l_R),Nat.ne_of_gt (Nat.lt_add_right 1 l_R)]<;>rfl),(by simp only [hS,hA,hD,hM,World.size_alloc,World.size_setCell,World.size_drew,size_mset,Nat.add_right_cancel_iff,Nat.left_eq_add,Nat.add_eq_left,Nat.reduceEqDiff,Nat.add_assoc,Nat.reduceAdd,Nat.one_ne_zero,Nat.zero_ne_one,reduceIte,Option.map_some,Obj.put,Re12_R.out,Nat.ne_of_lt l_R,Nat.ne_of_gt l_R,Nat.ne_of_lt (Nat.lt_add_right 1 l_R),Nat.ne_of_gt (Nat.lt_add_right 1 l_R)]<;>rfl)⟩ (fun w13 hW=> ?_) rfl (fun w13 hW=> ?_)
  · obtain ⟨Kw13,cw13_R,cw13_B,cw13_G⟩:=hW
    have q0:=cell_of_heap cw13_R 0
    have q1:=cell_of_heap cw13_R 1
    have q2:=cell_of_heap cw13_R 2
    have q3:=cell_of_heap cw13_R 3
    have q4:=cell_of_heap cw13_R 4
    simp at q0 q1 q2 q3 q4
    simp [results,Tryz.results183,go_sem,q0,q1,q2,q3,q4]
  · obtain ⟨Kw13,cw13_R,cw13_B,cw13_G⟩:=hW
    have n_p_B:p≠e12.heap.size:=Nat.ne_of_lt l_p
    have n_B_p:e12.heap.size≠p:=Nat.ne_of_gt l_p
    have n_R_B:w.heap.size≠e12.heap.size:=Nat.ne_of_lt l_R
    have n_B_R:e12.heap.size≠w.heap.size:=Nat.ne_of_gt l_R
    have n_T_B:e2.heap.size≠e12.heap.size:=Nat.ne_of_lt l_T
    have n_B_T:e12.heap.size≠e2.heap.size:=Nat.ne_of_gt l_T
    have o_B:w.heap.size≤e12.heap.size:=HKe12.out.size
    have g_B:13<e12.heap.size:=Nat.lt_trans g_p l_p
    have ns_n_B:¬(Seg e11.heap.size e12.heap.size) (e12.heap.size):=fun h=>Nat.not_lt_of_le ((Nat.le_refl e12.heap.size)) (up_n _ h)
    have n_p_G:p≠e12.heap.size+1:=Nat.ne_of_lt (Nat.lt_add_right 1 l_p)
    have n_G_p:e12.heap.size+1≠p:=Nat.ne_of_gt (Nat.lt_add_right 1 l_p)
    have n_R_G:w.heap.size≠e12.heap.size+1:=Nat.ne_of_lt (Nat.lt_add_right 1 l_R)
    have n_G_R:e12.heap.size+1≠w.heap.size:=Nat.ne_of_gt (Nat.lt_add_right 1 l_R)
    have n_T_G:e2.heap.size≠e12.heap.size+1:=Nat.ne_of_lt (Nat.lt_add_right 1 l_T)
    have n_G_T:e12.heap.size+1≠e2.heap.size:=Nat.ne_of_gt (Nat.lt_add_right 1 l_T)
    have n_B_G:e12.heap.size≠e12.heap.size+1:=by simp
    have n_G_B:e12.heap.size+1≠e12.heap.size:=by simp
    have o_G:w.heap.size≤e12.heap.size+1:=Nat.le_trans (HKe12.out.size) (Nat.le_add_right _ 1)
    have g_G:13<e12.heap.size+1:=Nat.lt_trans g_p (Nat.lt_add_right 1 l_p)
    have ns_n_G:¬(Seg e11.heap.size e12.heap.size) (e12.heap.size+1):=fun h=>Nat.not_lt_of_le (Nat.le_add_right_of_le (Nat.le_refl e12.heap.size)) (up_n _ h)
    have Rw13_T:=Lib.hid (Kw13.at Re12_T.out (by simp [n_T_R]))
    have HKw13:=Lib.hid (HKe12.out.trans Kw13 (by simp [o_R]))
    have HPw13:=Lib.hid (HPne12.out.keepN Kw13 (by simp [n_p_R]) (by simp [g_R]))
    have nw13:=Lib.hid (ne12.out.kp Kw13 (by simp [ns_n_R]))
    have us_nw13:=Nat.le_trans (Nat.le_refl e12.heap.size) Kw13.size
    have Rw13_R:=Lib.hid cw13_R
    have Rw13_B:=Lib.hid cw13_B
    have Rw13_G:=Lib.hid cw13_G
    clear Kw13 cw13_R cw13_B cw13_G l_p l_p_1 l_R l_R_1 xR_0 xR_1 xR_2 xR_3 xR_4 yR_0 yR_1 yR_2 yR_3 yR_4 l_T l_T_1 Re12_T HKe12 HPne12 ne12 Re12_R
    have hri:=nw13.out.reim
    rw [←hri.1,←hri.2]
    exact ⟨_,rfl,.mk (.some (S:=fun g=>w.heap.size≤g) o_G (h_lt Rw13_G.out) (row1 nw13.out dn_n Rw13_G.out)),HPw13.out,HKw13.out⟩
end Go.Proofs.YteafcepaolofpaaGreatDoor
end
