/- Texts of this claim, joined: LevelsG, LevelsH. -/
import Derived.Test.YteafcepaolofpaaGreatDoorLevelsF
set_option maxRecDepth 100000
set_option maxHeartbeats 4000000
set_option linter.unusedSimpArgs false
set_option linter.unusedVariables false
set_option linter.unusedSectionVars false
section
/- goes, walked. Made by a program (parse.py, walk.py). -/
namespace Go.Proofs.YteafcepaolofpaaGreatDoor
open Go.RowKit

theorem goes_k2{s:ByteArray}{p:Nat}{st:PSt}{w:World}(h:PP s p st w){kd:Int}{tx:ByteArray}{nm fr te:Nat}(ht:nextF s st.pos false=some ⟨2,tx,nm,fr,te⟩)  :
    Calls Tryz.prog 260 #[.pointer (some ⟨p,0,none⟩)] w fun r w'=>r= .returned (.bool true)∧Keeps [] w w':=by
  have g_p:=h.p
  have HP0:=Lib.hid h;have HK0:=Lib.hid (Keeps.refl [] w);have HT:=Lib.hid ht

  clear h ht
  go_enter Tryz.func260,Tryz.ntmps260
  have l_p:=h_lt HP0.out.row
  go_wp2_with fail
  clear l_p
  refine (ok_any HP0.out).mono ?_
  rintro r w' ⟨rfl,hw'⟩
  rw [hw']
  clear hw'
  obtain ⟨l_p,xp_0,xp_1,xp_2,xp_3,xp_4,xp_5,yp_0,yp_1,yp_2,yp_3,yp_4,yp_5⟩:=cf6 HP0.out.row
  go_wp2_with fail
  clear l_p xp_0 xp_1 xp_2 xp_3 xp_4 xp_5 yp_0 yp_1 yp_2 yp_3 yp_4 yp_5
  refine (peek_any HP0.out HT.out HP0.out.le).mono ?_
  rintro r e1 ⟨rfl,hk⟩
  have HKe1:=Lib.hid (HK0.out.trans hk (by simp))
  have HPe1:=Lib.hid (HP0.out.keep hk)
  clear hk HK0 HP0
  have l_p:=h_lt HPe1.out.row
  go_wp2_with fail
  refine ret_at (v:= .bool true) (fun W=>Keeps [] e1 W∧W.heap[e1.heap.size]? =some (.cells #[.int .i64 2,.string tx,.float .f64 nm,.int .i64 fr,.int .i64 te] 109 (0,0))) ⟨(by with_reducible repeat (first|exact k0 _ _|refine kA ?_ _|refine kD ?_|refine kS ?_ (by simp)|refine kM ?_ (by simp))),(by simp only [hS,hA,hD,hM,World.size_setCell,World.size_drew,reduceIte,Option.map_some,Obj.put]<;>rfl)⟩ (fun w2 hW=> ?_) rfl (fun w2 hW=> ?_)
  · obtain ⟨Kw2,cw2_T⟩:=hW
    simp [results,Tryz.results260,go_sem]
  · obtain ⟨Kw2,cw2_T⟩:=hW
    have n_p_T:p≠e1.heap.size:=Nat.ne_of_lt l_p
    have n_T_p:e1.heap.size≠p:=Nat.ne_of_gt l_p
    have o_T:w.heap.size≤e1.heap.size:=HKe1.out.size
    have g_T:13<e1.heap.size:=Nat.lt_trans g_p l_p
    have HKw2:=Lib.hid (HKe1.out.trans Kw2 (by simp))
    have HPw2:=Lib.hid (HPe1.out.keep Kw2)
    have Rw2_T:=Lib.hid cw2_T
    clear Kw2 cw2_T l_p HKe1 HPe1
    exact ⟨rfl,HKw2.out⟩

theorem goes_k3{s:ByteArray}{p:Nat}{st:PSt}{w:World}(h:PP s p st w){kd:Int}{tx:ByteArray}{nm fr te:Nat}(ht:nextF s st.pos false=some ⟨3,tx,nm,fr,te⟩)  :
    Calls Tryz.prog 260 #[.pointer (some ⟨p,0,none⟩)] w fun r w'=>r= .returned (.bool true)∧Keeps [] w w':=by
  have g_p:=h.p
  have HP0:=Lib.hid h;have HK0:=Lib.hid (Keeps.refl [] w);have HT:=Lib.hid ht

  clear h ht
  go_enter Tryz.func260,Tryz.ntmps260
  have l_p:=h_lt HP0.out.row
  go_wp2_with fail
  clear l_p
  refine (ok_any HP0.out).mono ?_
  rintro r w' ⟨rfl,hw'⟩
  rw [hw']
  clear hw'
  obtain ⟨l_p,xp_0,xp_1,xp_2,xp_3,xp_4,xp_5,yp_0,yp_1,yp_2,yp_3,yp_4,yp_5⟩:=cf6 HP0.out.row
  go_wp2_with fail
  clear l_p xp_0 xp_1 xp_2 xp_3 xp_4 xp_5 yp_0 yp_1 yp_2 yp_3 yp_4 yp_5
  refine (peek_any HP0.out HT.out HP0.out.le).mono ?_
  rintro r e1 ⟨rfl,hk⟩
  have HKe1:=Lib.hid (HK0.out.trans hk (by simp))
  have HPe1:=Lib.hid (HP0.out.keep hk)
  clear hk HK0 HP0
  have l_p:=h_lt HPe1.out.row
  go_wp2_with fail
  refine ret_at (v:= .bool true) (fun W=>Keeps [] e1 W∧W.heap[e1.heap.size]? =some (.cells #[.int .i64 3,.string tx,.float .f64 nm,.int .i64 fr,.int .i64 te] 109 (0,0))) ⟨(by with_reducible repeat (first|exact k0 _ _|refine kA ?_ _|refine kD ?_|refine kS ?_ (by simp)|refine kM ?_ (by simp))),(by simp only [hS,hA,hD,hM,World.size_setCell,World.size_drew,reduceIte,Option.map_some,Obj.put]<;>rfl)⟩ (fun w2 hW=> ?_) rfl (fun w2 hW=> ?_)
  · obtain ⟨Kw2,cw2_T⟩:=hW
    simp [results,Tryz.results260,go_sem]
  · obtain ⟨Kw2,cw2_T⟩:=hW
    have n_p_T:p≠e1.heap.size:=Nat.ne_of_lt l_p
    have n_T_p:e1.heap.size≠p:=Nat.ne_of_gt l_p
    have o_T:w.heap.size≤e1.heap.size:=HKe1.out.size
    have g_T:13<e1.heap.size:=Nat.lt_trans g_p l_p
    have HKw2:=Lib.hid (HKe1.out.trans Kw2 (by simp))
    have HPw2:=Lib.hid (HPe1.out.keep Kw2)
    have Rw2_T:=Lib.hid cw2_T
    clear Kw2 cw2_T l_p HKe1 HPe1
    exact ⟨rfl,HKw2.out⟩

theorem goes_k5{s:ByteArray}{p:Nat}{st:PSt}{w:World}(h:PP s p st w){kd:Int}{tx:ByteArray}{nm fr te:Nat}(ht:nextF s st.pos false=some ⟨5,tx,nm,fr,te⟩)  :
    Calls Tryz.prog 260 #[.pointer (some ⟨p,0,none⟩)] w fun r w'=>r= .returned (.bool true)∧Keeps [] w w':=by
  have g_p:=h.p
  have HP0:=Lib.hid h;have HK0:=Lib.hid (Keeps.refl [] w);have HT:=Lib.hid ht

  clear h ht
  go_enter Tryz.func260,Tryz.ntmps260
  have l_p:=h_lt HP0.out.row
  go_wp2_with fail
  clear l_p
  refine (ok_any HP0.out).mono ?_
  rintro r w' ⟨rfl,hw'⟩
  rw [hw']
  clear hw'
  obtain ⟨l_p,xp_0,xp_1,xp_2,xp_3,xp_4,xp_5,yp_0,yp_1,yp_2,yp_3,yp_4,yp_5⟩:=cf6 HP0.out.row
  go_wp2_with fail
  clear l_p xp_0 xp_1 xp_2 xp_3 xp_4 xp_5 yp_0 yp_1 yp_2 yp_3 yp_4 yp_5
  refine (peek_any HP0.out HT.out HP0.out.le).mono ?_
  rintro r e1 ⟨rfl,hk⟩
  have HKe1:=Lib.hid (HK0.out.trans hk (by simp))
  have HPe1:=Lib.hid (HP0.out.keep hk)
  clear hk HK0 HP0
  have l_p:=h_lt HPe1.out.row
  go_wp2_with fail
  refine ret_at (v:= .bool true) (fun W=>Keeps [] e1 W∧W.heap[e1.heap.size]? =some (.cells #[.int .i64 5,.string tx,.float .f64 nm,.int .i64 fr,.int .i64 te] 109 (0,0))) ⟨(by with_reducible repeat (first|exact k0 _ _|refine kA ?_ _|refine kD ?_|refine kS ?_ (by simp)|refine kM ?_ (by simp))),(by simp only [hS,hA,hD,hM,World.size_setCell,World.size_drew,reduceIte,Option.map_some,Obj.put]<;>rfl)⟩ (fun w2 hW=> ?_) rfl (fun w2 hW=> ?_)
  · obtain ⟨Kw2,cw2_T⟩:=hW
    simp [results,Tryz.results260,go_sem]
  · obtain ⟨Kw2,cw2_T⟩:=hW
    have n_p_T:p≠e1.heap.size:=Nat.ne_of_lt l_p
    have n_T_p:e1.heap.size≠p:=Nat.ne_of_gt l_p
    have o_T:w.heap.size≤e1.heap.size:=HKe1.out.size
    have g_T:13<e1.heap.size:=Nat.lt_trans g_p l_p
    have HKw2:=Lib.hid (HKe1.out.trans Kw2 (by simp))
    have HPw2:=Lib.hid (HPe1.out.keep Kw2)
    have Rw2_T:=Lib.hid cw2_T
    clear Kw2 cw2_T l_p HKe1 HPe1
    exact ⟨rfl,HKw2.out⟩

theorem goes_k6{s:ByteArray}{p:Nat}{st:PSt}{w:World}(h:PP s p st w){kd:Int}{tx:ByteArray}{nm fr te:Nat}(ht:nextF s st.pos false=some ⟨6,tx,nm,fr,te⟩)  :
    Calls Tryz.prog 260 #[.pointer (some ⟨p,0,none⟩)] w fun r w'=>r= .returned (.bool true)∧Keeps [] w w':=by
  have g_p:=h.p
  have HP0:=Lib.hid h;have HK0:=Lib.hid (Keeps.refl [] w);have HT:=Lib.hid ht

  clear h ht
  go_enter Tryz.func260,Tryz.ntmps260
  have l_p:=h_lt HP0.out.row
  go_wp2_with fail
  clear l_p
  refine (ok_any HP0.out).mono ?_
  rintro r w' ⟨rfl,hw'⟩
  rw [hw']
  clear hw'
  obtain ⟨l_p,xp_0,xp_1,xp_2,xp_3,xp_4,xp_5,yp_0,yp_1,yp_2,yp_3,yp_4,yp_5⟩:=cf6 HP0.out.row
  go_wp2_with fail
  clear l_p xp_0 xp_1 xp_2 xp_3 xp_4 xp_5 yp_0 yp_1 yp_2 yp_3 yp_4 yp_5
  refine (peek_any HP0.out HT.out HP0.out.le).mono ?_
  rintro r e1 ⟨rfl,hk⟩
  have HKe1:=Lib.hid (HK0.out.trans hk (by simp))
  have HPe1:=Lib.hid (HP0.out.keep hk)
  clear hk HK0 HP0
  have l_p:=h_lt HPe1.out.row
  go_wp2_with fail
  refine ret_at (v:= .bool true) (fun W=>Keeps [] e1 W∧W.heap[e1.heap.size]? =some (.cells #[.int .i64 6,.string tx,.float .f64 nm,.int .i64 fr,.int .i64 te] 109 (0,0))) ⟨(by with_reducible repeat (first|exact k0 _ _|refine kA ?_ _|refine kD ?_|refine kS ?_ (by simp)|refine kM ?_ (by simp))),(by simp only [hS,hA,hD,hM,World.size_setCell,World.size_drew,reduceIte,Option.map_some,Obj.put]<;>rfl)⟩ (fun w2 hW=> ?_) rfl (fun w2 hW=> ?_)
  · obtain ⟨Kw2,cw2_T⟩:=hW
    simp [results,Tryz.results260,go_sem]
  · obtain ⟨Kw2,cw2_T⟩:=hW
    have n_p_T:p≠e1.heap.size:=Nat.ne_of_lt l_p
    have n_T_p:e1.heap.size≠p:=Nat.ne_of_gt l_p
    have o_T:w.heap.size≤e1.heap.size:=HKe1.out.size
    have g_T:13<e1.heap.size:=Nat.lt_trans g_p l_p
    have HKw2:=Lib.hid (HKe1.out.trans Kw2 (by simp))
    have HPw2:=Lib.hid (HPe1.out.keep Kw2)
    have Rw2_T:=Lib.hid cw2_T
    clear Kw2 cw2_T l_p HKe1 HPe1
    exact ⟨rfl,HKw2.out⟩

theorem goes_k7{s:ByteArray}{p:Nat}{st:PSt}{w:World}(h:PP s p st w){kd:Int}{tx:ByteArray}{nm fr te:Nat}(ht:nextF s st.pos false=some ⟨7,tx,nm,fr,te⟩)  :
    Calls Tryz.prog 260 #[.pointer (some ⟨p,0,none⟩)] w fun r w'=>r= .returned (.bool true)∧Keeps [] w w':=by
  have g_p:=h.p
  have HP0:=Lib.hid h;have HK0:=Lib.hid (Keeps.refl [] w);have HT:=Lib.hid ht

  clear h ht
  go_enter Tryz.func260,Tryz.ntmps260
  have l_p:=h_lt HP0.out.row
  go_wp2_with fail
  clear l_p
  refine (ok_any HP0.out).mono ?_
  rintro r w' ⟨rfl,hw'⟩
  rw [hw']
  clear hw'
  obtain ⟨l_p,xp_0,xp_1,xp_2,xp_3,xp_4,xp_5,yp_0,yp_1,yp_2,yp_3,yp_4,yp_5⟩:=cf6 HP0.out.row
  go_wp2_with fail
  clear l_p xp_0 xp_1 xp_2 xp_3 xp_4 xp_5 yp_0 yp_1 yp_2 yp_3 yp_4 yp_5
  refine (peek_any HP0.out HT.out HP0.out.le).mono ?_
  rintro r e1 ⟨rfl,hk⟩
  have HKe1:=Lib.hid (HK0.out.trans hk (by simp))
  have HPe1:=Lib.hid (HP0.out.keep hk)
  clear hk HK0 HP0
  have l_p:=h_lt HPe1.out.row
  go_wp2_with fail
  refine ret_at (v:= .bool true) (fun W=>Keeps [] e1 W∧W.heap[e1.heap.size]? =some (.cells #[.int .i64 7,.string tx,.float .f64 nm,.int .i64 fr,.int .i64 te] 109 (0,0))) ⟨(by with_reducible repeat (first|exact k0 _ _|refine kA ?_ _|refine kD ?_|refine kS ?_ (by simp)|refine kM ?_ (by simp))),(by simp only [hS,hA,hD,hM,World.size_setCell,World.size_drew,reduceIte,Option.map_some,Obj.put]<;>rfl)⟩ (fun w2 hW=> ?_) rfl (fun w2 hW=> ?_)
  · obtain ⟨Kw2,cw2_T⟩:=hW
    simp [results,Tryz.results260,go_sem]
  · obtain ⟨Kw2,cw2_T⟩:=hW
    have n_p_T:p≠e1.heap.size:=Nat.ne_of_lt l_p
    have n_T_p:e1.heap.size≠p:=Nat.ne_of_gt l_p
    have o_T:w.heap.size≤e1.heap.size:=HKe1.out.size
    have g_T:13<e1.heap.size:=Nat.lt_trans g_p l_p
    have HKw2:=Lib.hid (HKe1.out.trans Kw2 (by simp))
    have HPw2:=Lib.hid (HPe1.out.keep Kw2)
    have Rw2_T:=Lib.hid cw2_T
    clear Kw2 cw2_T l_p HKe1 HPe1
    exact ⟨rfl,HKw2.out⟩

theorem goes_k9{s:ByteArray}{p:Nat}{st:PSt}{w:World}(h:PP s p st w){kd:Int}{tx:ByteArray}{nm fr te:Nat}(ht:nextF s st.pos false=some ⟨9,tx,nm,fr,te⟩)  :
    Calls Tryz.prog 260 #[.pointer (some ⟨p,0,none⟩)] w fun r w'=>r= .returned (.bool (among ⟨#[36,32,40,32,43,43,32,45,45]⟩ tx))∧Keeps [] w w':=by
  have g_p:=h.p
  have HP0:=Lib.hid h;have HK0:=Lib.hid (Keeps.refl [] w);have HT:=Lib.hid ht
  have HA:=Lib.hid (fun W=>among_any ⟨#[36,32,40,32,43,43,32,45,45]⟩ tx (by decide) W)
  clear h ht
  go_enter Tryz.func260,Tryz.ntmps260
  have l_p:=h_lt HP0.out.row
  go_wp2_with fail
  clear l_p
  refine (ok_any HP0.out).mono ?_
  rintro r w' ⟨rfl,hw'⟩
  rw [hw']
  clear hw'
  obtain ⟨l_p,xp_0,xp_1,xp_2,xp_3,xp_4,xp_5,yp_0,yp_1,yp_2,yp_3,yp_4,yp_5⟩:=cf6 HP0.out.row
  go_wp2_with fail
  clear l_p xp_0 xp_1 xp_2 xp_3 xp_4 xp_5 yp_0 yp_1 yp_2 yp_3 yp_4 yp_5
  refine (peek_any HP0.out HT.out HP0.out.le).mono ?_
  rintro r e1 ⟨rfl,hk⟩
  have HKe1:=Lib.hid (HK0.out.trans hk (by simp))
  have HPe1:=Lib.hid (HP0.out.keep hk)
  clear hk HK0 HP0
  have l_p:=h_lt HPe1.out.row
  go_wp2_with fail
  refine calls_at (fun W=>Keeps [] e1 W∧W.heap[e1.heap.size]? =some (.cells #[.int .i64 9,.string tx,.float .f64 nm,.int .i64 fr,.int .i64 te] 109 (0,0))) ⟨(by with_reducible repeat (first|exact k0 _ _|refine kA ?_ _|refine kD ?_|refine kS ?_ (by simp)|refine kM ?_ (by simp))),(by simp only [hS,hA,hD,hM,World.size_setCell,World.size_drew,reduceIte,Option.map_some,Obj.put]<;>rfl)⟩ ?_
  rintro w2 ⟨Kw2,cw2_T⟩
  have n_p_T:p≠e1.heap.size:=Nat.ne_of_lt l_p
  have n_T_p:e1.heap.size≠p:=Nat.ne_of_gt l_p
  have o_T:w.heap.size≤e1.heap.size:=HKe1.out.size
  have g_T:13<e1.heap.size:=Nat.lt_trans g_p l_p
  have HKw2:=Lib.hid (HKe1.out.trans Kw2 (by simp))
  have HPw2:=Lib.hid (HPe1.out.keep Kw2)
  have Rw2_T:=Lib.hid cw2_T
  clear Kw2 cw2_T l_p HKe1 HPe1
  refine (HA.out _).mono ?_
  rintro r w' ⟨rfl,hw'⟩
  rw [hw']
  clear hw'
  have l_p:=h_lt HPw2.out.row
  have l_T:=h_lt Rw2_T.out
  go_wp2_with fail
  refine ret_at (v:= .bool (among ⟨#[36,32,40,32,43,43,32,45,45]⟩ tx)) (fun W=>Keeps [] w2 W) (by with_reducible repeat (first|exact k0 _ _|refine kA ?_ _|refine kD ?_|refine kS ?_ (by simp)|refine kM ?_ (by simp))) (fun w3 hW=> ?_) rfl (fun w3 hW=> ?_)
  · have Kw3:Keeps [] w2 w3:=hW
    simp [results,Tryz.results260,go_sem]
  · have Kw3:Keeps [] w2 w3:=hW
    have Rw3_T:=Lib.hid (Kw3.at Rw2_T.out (by simp))
    have HKw3:=Lib.hid (HKw2.out.trans Kw3 (by simp))
    have HPw3:=Lib.hid (HPw2.out.keep Kw3)
    clear Kw3 l_p l_T Rw2_T HKw2 HPw2
    exact ⟨rfl,HKw3.out⟩

theorem goes_else{s:ByteArray}{p:Nat}{st:PSt}{w:World}(h:PP s p st w){kd:Int}{tx:ByteArray}{nm fr te:Nat}(ht:nextF s st.pos false=some ⟨kd,tx,nm,fr,te⟩)(n2:(kd==2)=false)(n3:(kd==3)=false)(n5:(kd==5)=false)(n6:(kd==6)=false)(n7:(kd==7)=false)(n9:(kd==9)=false):
    Calls Tryz.prog 260 #[.pointer (some ⟨p,0,none⟩)] w fun r w'=>r= .returned (.bool false)∧Keeps [] w w':=by
  have g_p:=h.p
  have HP0:=Lib.hid h;have HK0:=Lib.hid (Keeps.refl [] w);have HT:=Lib.hid ht

  clear h ht
  go_enter Tryz.func260,Tryz.ntmps260
  have l_p:=h_lt HP0.out.row
  go_wp2_with fail
  clear l_p
  refine (ok_any HP0.out).mono ?_
  rintro r w' ⟨rfl,hw'⟩
  rw [hw']
  clear hw'
  obtain ⟨l_p,xp_0,xp_1,xp_2,xp_3,xp_4,xp_5,yp_0,yp_1,yp_2,yp_3,yp_4,yp_5⟩:=cf6 HP0.out.row
  go_wp2_with fail
  clear l_p xp_0 xp_1 xp_2 xp_3 xp_4 xp_5 yp_0 yp_1 yp_2 yp_3 yp_4 yp_5
  refine (peek_any HP0.out HT.out HP0.out.le).mono ?_
  rintro r e1 ⟨rfl,hk⟩
  have HKe1:=Lib.hid (HK0.out.trans hk (by simp))
  have HPe1:=Lib.hid (HP0.out.keep hk)
  clear hk HK0 HP0
  have l_p:=h_lt HPe1.out.row
  go_wp2_with fail
  refine ret_at (v:= .bool false) (fun W=>Keeps [] e1 W∧W.heap[e1.heap.size]? =some (.cells #[.int .i64 kd,.string tx,.float .f64 nm,.int .i64 fr,.int .i64 te] 109 (0,0))) ⟨(by with_reducible repeat (first|exact k0 _ _|refine kA ?_ _|refine kD ?_|refine kS ?_ (by simp)|refine kM ?_ (by simp))),(by simp only [hS,hA,hD,hM,World.size_setCell,World.size_drew,reduceIte,Option.map_some,Obj.put]<;>rfl)⟩ (fun w2 hW=> ?_) rfl (fun w2 hW=> ?_)
  · obtain ⟨Kw2,cw2_T⟩:=hW
    simp [results,Tryz.results260,go_sem]
  · obtain ⟨Kw2,cw2_T⟩:=hW
    have n_p_T:p≠e1.heap.size:=Nat.ne_of_lt l_p
    have n_T_p:e1.heap.size≠p:=Nat.ne_of_gt l_p
    have o_T:w.heap.size≤e1.heap.size:=HKe1.out.size
    have g_T:13<e1.heap.size:=Nat.lt_trans g_p l_p
    have HKw2:=Lib.hid (HKe1.out.trans Kw2 (by simp))
    have HPw2:=Lib.hid (HPe1.out.keep Kw2)
    have Rw2_T:=Lib.hid cw2_T
    clear Kw2 cw2_T l_p HKe1 HPe1
    exact ⟨rfl,HKw2.out⟩

theorem goes_any{s:ByteArray}{p:Nat}{st:PSt}{w:World}(h:PP s p st w){b:Bool}(hx:goesF s st=some b):
    Calls Tryz.prog 260 #[.pointer (some ⟨p,0,none⟩)] w fun r w'=>r= .returned (.bool b)∧Keeps [] w w':=by
  unfold goesF at hx
  cases ht:nextF s st.pos false with
  |none=>rw [ht] at hx;simp at hx
  | some t=>
    rw [ht] at hx
    obtain ⟨kd,tx,nm,fr,te⟩:=t
    simp only [Option.bind_eq_bind,Option.bind_some] at hx
    by_cases h5:kd=2∨kd=3∨kd=5∨kd=6∨kd=7
    · rw [if_pos h5] at hx
      obtain rfl:=Option.some.inj hx
      rcases h5 with rfl|rfl|rfl|rfl|rfl
      · exact goes_k2 (kd:=0) h ht
      · exact goes_k3 (kd:=0) h ht
      · exact goes_k5 (kd:=0) h ht
      · exact goes_k6 (kd:=0) h ht
      · exact goes_k7 (kd:=0) h ht
    · rw [if_neg h5] at hx
      by_cases h9:kd=9
      · subst h9
        rw [if_pos rfl] at hx
        obtain rfl:=Option.some.inj hx
        exact goes_k9 (kd:=0) h ht
      · rw [if_neg h9] at hx
        obtain rfl:=Option.some.inj hx
        simp only [not_or] at h5
        exact goes_else h ht (beq_false_of_ne h5.1) (beq_false_of_ne h5.2.1) (beq_false_of_ne h5.2.2.1) (beq_false_of_ne h5.2.2.2.1) (beq_false_of_ne h5.2.2.2.2) (beq_false_of_ne h9)
end Go.Proofs.YteafcepaolofpaaGreatDoor
end
section
/- sum, walked. Made by a program (parse.py, walk.py). -/
namespace Go.Proofs.YteafcepaolofpaaGreatDoor
open Go.RowKit

/-- A level's loop: the node so far lies in block B; what comes of it is G's. -/
def LoopN(s:ByteArray)(p R B:Nat)(w:World)(G:Nat→Node→PSt→Prop)(g:Nat)(wr:World):Prop:=
  ∃ (n:Node) (st:PSt) (nt:ByteArray) (nm:Nat) (na:Option Addr) (nl nc nr ni:Nat) (S:Nat→Prop) (U:Nat),G g n st∧NodeR wr S n (.agg #[.int .i64 n.kind,.string nt,.float .f64 nm,.slice na nl nc,.complex .f64 nr ni])∧
    (∀x,S x→x<U)∧U≤wr.heap.size∧(∀x,S x→w.heap.size≤x)∧¬S p∧¬S R∧¬S B∧PP s p st wr∧Keeps [p] w wr∧wr.heap[R]? =some (.cells #[.int .i64 0,.string ⟨#[]⟩,.float .f64 0,.slice none 0 0,.complex .f64 0 0] 58 (0,0))∧
    wr.heap[B]? =some (.cells #[.int .i64 n.kind,.string nt,.float .f64 nm,.slice na nl nc,.complex .f64 nr ni] 58 (0,0))

theorem NodeR.reim{w:World}{S:Nat→Prop}{n:Node}{a b c d:Value}{re im:Nat}(h:NodeR w S n (.agg #[a,b,c,d,.complex .f64 re im])):re=n.re∧im=n.im:=by
  cases h;exact ⟨rfl,rfl⟩
theorem oneF_none{s:ByteArray}{st st2:PSt}{sg:ByteArray}(h:oneF s st sg=some (none,st2)):st2=st∧noneF s st sg=some ():=by
  have h2:noneF s st sg=some ():=by rw [noneF,h];rfl
  refine ⟨?_,h2⟩
  rw [oneF] at h
  cases ht:nextF s st.pos false with
  |none=>rw [ht] at h;simp at h
  | some t=>
    rw [ht] at h
    simp only [Option.bind_eq_bind,Option.bind_some] at h
    split at h
    · simp at h
    · simpa using h.symm
theorem oneF_some{s:ByteArray}{st st2:PSt}{sg x:ByteArray}{re im:Nat}(h:oneF s st sg=some (some (x,re,im),st2)):
    ∃t,nextF s st.pos false=some t∧t.kind=9∧among sg t.text=true∧x=t.text∧re=(placeOf s t.fr).1∧im=(placeOf s t.fr).2∧st2=⟨t.to,st.opn,st.ng⟩:=by
  rw [oneF] at h
  cases ht:nextF s st.pos false with
  |none=>rw [ht] at h;simp at h
  | some t=>
    rw [ht] at h
    simp only [Option.bind_eq_bind,Option.bind_some] at h
    split at h
    · rename_i hc
      simp only [Bool.and_eq_true,beq_iff_eq] at hc
      simp only [Option.some.injEq,Prod.mk.injEq] at h
      obtain ⟨⟨h1,h2⟩,h3⟩:=h
      have h4:placeOf s t.fr=(re,im):=h2
      exact ⟨t,rfl,hc.1,hc.2,h1.symm,by rw [h4],by rw [h4],h3.symm⟩
    · simp at h

theorem sum_lv{s : ByteArray}{p:Nat}{st st':PSt}{n':Node}{rec:Rec}(hrec:∀st st' n,rec .product st=some (n,st')→Hands s p st st' n 261)(hx:step s rec .sum st=some (n',st')):Hands s p st st' n' 259:=by
  simp only [step] at hx
  cases h1:rec .product st with
  |none=>rw [h1] at hx;simp at hx
  | some y=>
    rw [h1] at hx
    obtain ⟨n,st1⟩:=y
    simp only [Option.bind_eq_bind,Option.bind_some] at hx
    have hsub:=hrec _ _ _ h1
    intro w h
    have g_p:=h.p
    have HP0:=Lib.hid h;have HK0:=Lib.hid (Keeps.refl [p] w);have HS1:=Lib.hid hsub;have HRec:=Lib.hid hrec;have HG:=Lib.hid hx
    clear h hsub hrec hx h1
    go_enter Tryz.func259,Tryz.ntmps259
    have l_p:=h_lt HP0.out.row
    go_wp2_with fail
    refine calls_at (fun W=>Keeps [] w W∧W.heap[w.heap.size]? =some (.cells #[.int .i64 0,.string ⟨#[]⟩,.float .f64 0,.slice none 0 0,.complex .f64 0 0] 58 (0,0))) ⟨(by with_reducible repeat (first|exact k0 _ _|refine kA ?_ _|refine kD ?_|refine kS ?_ (by simp)|refine kM ?_ (by simp))),(by simp only [hS,hA,hD,hM,World.size_setCell,World.size_drew,reduceIte,Option.map_some,Obj.put]<;>rfl)⟩ ?_
    rintro w1 ⟨Kw1,cw1_R⟩
    have n_p_R:p≠w.heap.size:=Nat.ne_of_lt l_p
    have n_R_p:w.heap.size≠p:=Nat.ne_of_gt l_p
    have o_R:w.heap.size≤w.heap.size:=Nat.le_refl _
    have g_R:13<w.heap.size:=Nat.lt_trans g_p l_p
    have HKw1:=Lib.hid (HK0.out.trans Kw1 (by simp))
    have HPw1:=Lib.hid (HP0.out.keep Kw1)
    have Rw1_R:=Lib.hid cw1_R
    clear Kw1 cw1_R l_p HK0 HP0
    refine (HS1.out _ HPw1.out).mono ?_
    rintro r e2 ⟨v,rfl,hn,hp,hk⟩
    have Re2_R:=Lib.hid (hk.at Rw1_R.out (by simp [n_R_p]))
    have HKe2:=Lib.hid (HKw1.out.trans hk (by simp))
    have HPne2:=Lib.hid hp
    have ne2:=Lib.hid hn.seg
    have o_n:w.heap.size≤w1.heap.size:=HKw1.out.size
    have ns_n_p:¬(Seg w1.heap.size e2.heap.size) (p):=fun h=>Nat.not_lt_of_le h.1 (h_lt HPw1.out.row)
    have ns_n_R:¬(Seg w1.heap.size e2.heap.size) (w.heap.size):=fun h=>Nat.not_lt_of_le h.1 (h_lt Rw1_R.out)
    have up_n:∀g,(Seg w1.heap.size e2.heap.size) g→g<e2.heap.size:=fun _ h=>h.2
    have dn_n:∀g,(Seg w1.heap.size e2.heap.size) g→w.heap.size≤g:=fun _ h=>Nat.le_trans o_n h.1
    obtain ⟨nt,nm,na,nl,nc,nr,ni,rfl,-,-⟩:=hn.shape
    clear hn hp
    clear hk Rw1_R HKw1 HPw1
    have l_p:=h_lt HPne2.out.row
    have l_R:=h_lt Re2_R.out
    go_wp2_with fail
    refine wp_at (fun W=>Keeps [] e2 W∧W.heap[e2.heap.size]? =some (.cells #[.int .i64 n.kind,.string nt,.float .f64 nm,.slice na nl nc,.complex .f64 nr ni] 58 (0,0))) ⟨(by with_reducible repeat (first|exact k0 _ _|refine kA ?_ _|refine kD ?_|refine kS ?_ (by simp)|refine kM ?_ (by simp))),(by simp only [hS,hA,hD,hM,World.size_setCell,World.size_drew,reduceIte,Option.map_some,Obj.put]<;>rfl)⟩ ?_
    rintro w3 ⟨Kw3,cw3_B⟩
    have n_p_B:p≠e2.heap.size:=Nat.ne_of_lt l_p
    have n_B_p:e2.heap.size≠p:=Nat.ne_of_gt l_p
    have n_R_B:w.heap.size≠e2.heap.size:=Nat.ne_of_lt l_R
    have n_B_R:e2.heap.size≠w.heap.size:=Nat.ne_of_gt l_R
    have o_B:w.heap.size≤e2.heap.size:=HKe2.out.size
    have g_B:13<e2.heap.size:=Nat.lt_trans g_p l_p
    have ns_n_B:¬(Seg w1.heap.size e2.heap.size) (e2.heap.size):=fun h=>Nat.not_lt_of_le ((Nat.le_refl e2.heap.size)) (up_n _ h)
    have Rw3_R:=Lib.hid (Kw3.at Re2_R.out (by simp))
    have HKw3:=Lib.hid (HKe2.out.trans Kw3 (by simp))
    have HPw3:=Lib.hid (HPne2.out.keep Kw3)
    have nw3:=Lib.hid (ne2.out.kp Kw3 (by simp))
    have us_nw3:=Nat.le_trans (Nat.le_refl e2.heap.size) Kw3.size
    have Rw3_B:=Lib.hid cw3_B
    clear Kw3 cw3_B l_p l_R Re2_R HKe2 HPne2 ne2
    go_loopg [] 50 (fun g wr=>LoopN s p w.heap.size e2.heap.size w (fun g n st=>sumF s rec g n st=some (n',st')) g wr)
    case atStart=>exact ⟨n,st1,nt,nm,na,nl,nc,nr,ni,Seg w1.heap.size e2.heap.size,_,HG.out,nw3.out,up_n,us_nw3,dn_n,ns_n_p,ns_n_R,ns_n_B,HPw3.out,HKw3.out,Rw3_R.out,Rw3_B.out⟩
    clear HG
    case round=>
      obtain ⟨n1,st1,nt,nm,na,nl,nc,nr,ni,S,U,hG,hn,up_n,us_n,dn_n,ns_n_p,ns_n_R,ns_n_B,hp,hk,hR,hB⟩:=hrel
      have HN1:=Lib.hid hn;have HPr:=Lib.hid hp;have HKr:=Lib.hid hk;have RR:=Lib.hid hR;have RB:=Lib.hid hB
      clear hn hp hk hR hB
      cases gk with
      |zero=>simp [sumF] at hG
      | succ f=>
        rw [sumF] at hG
        cases ho:oneF s st1 plusminus with
        |none=>rw [ho] at hG;simp at hG
        | some y=>
          rw [ho] at hG
          obtain ⟨x,st2⟩:=y
          simp only [Option.bind_eq_bind,Option.bind_some] at hG
          cases x with
          | none=>
            obtain ⟨rfl,hno⟩:=oneF_none ho
            simp only [Option.some.injEq,Prod.mk.injEq] at hG
            obtain ⟨rfl,rfl⟩:=hG
            have HO:=Lib.hid hno
            clear ho hno
            have l_p:=h_lt HPr.out.row
            have l_R:=h_lt RR.out
            have l_B:=h_lt RB.out
            go_wp2_with fail
            clear l_p l_R l_B
            refine (one_none HPr.out HO.out (by decide)).mono ?_
            rintro r e51 ⟨rfl,hk⟩
            have Re51_R:=Lib.hid (hk.at RR.out (by simp))
            have Re51_B:=Lib.hid (hk.at RB.out (by simp))
            have HKe51:=Lib.hid (HKr.out.trans hk (by simp))
            have HPe51:=Lib.hid (HPr.out.keep hk)
            have ne51:=Lib.hid (HN1.out.kp hk (by simp))
            have us_ne51:=Nat.le_trans us_n hk.size
            clear hk RR RB HKr HPr HN1 us_n
            have l_p:=h_lt HPe51.out.row
            obtain ⟨l_R,xR_0,xR_1,xR_2,xR_3,xR_4,yR_0,yR_1,yR_2,yR_3,yR_4⟩:=cf5 Re51_R.out
            obtain ⟨l_B,xB_0,xB_1,xB_2,xB_3,xB_4,yB_0,yB_1,yB_2,yB_3,yB_4⟩:=cf5 Re51_B.out
            go_wp2_with fail
            refine ret_at (v:= .agg #[.int .i64 n1.kind,.string nt,.float .f64 nm,.slice na nl nc,.complex .f64 nr ni]) (fun W=>Keeps [w.heap.size] e51 W∧W.heap[w.heap.size]? =some (.cells #[.int .i64 n1.kind,.string nt,.float .f64 nm,.slice na nl nc,.complex .f64 nr ni] 58 (0,0))) ⟨(by with_reducible repeat (first|exact k0 _ _|refine kA ?_ _|refine kD ?_|refine kS ?_ (by simp)|refine kM ?_ (by simp))),(by simp only [hS,hA,hD,hM,reduceIte,Option.map_some,Obj.put,Re51_R.out,Nat.ne_of_lt l_R,Nat.ne_of_gt l_R]<;>rfl)⟩ (fun w52 hW=> ?_) rfl (fun w52 hW=> ?_)
            · obtain ⟨Kw52,cw52_R⟩:=hW
              have q0:=cell_of_heap cw52_R 0
              have q1:=cell_of_heap cw52_R 1
              have q2:=cell_of_heap cw52_R 2
              have q3:=cell_of_heap cw52_R 3
              have q4:=cell_of_heap cw52_R 4
              simp at q0 q1 q2 q3 q4
              simp [results,Tryz.results259,go_sem,q0,q1,q2,q3,q4]
            · obtain ⟨Kw52,cw52_R⟩:=hW
              have Rw52_B:=Lib.hid (Kw52.at Re51_B.out (by simp [n_B_R]))
              have HKw52:=Lib.hid (HKe51.out.trans Kw52 (by simp [o_R]))
              have HPw52:=Lib.hid (HPe51.out.keepN Kw52 (by simp [n_p_R]) (by simp [g_R]))
              have nw52:=Lib.hid (ne51.out.kp Kw52 (by simp [ns_n_R]))
              have us_nw52:=Nat.le_trans us_ne51 Kw52.size
              have Rw52_R:=Lib.hid cw52_R
              clear Kw52 cw52_R l_p l_R xR_0 xR_1 xR_2 xR_3 xR_4 yR_0 yR_1 yR_2 yR_3 yR_4 l_B xB_0 xB_1 xB_2 xB_3 xB_4 yB_0 yB_1 yB_2 yB_3 yB_4 Re51_B HKe51 HPe51 ne51 us_ne51 Re51_R
              exact ⟨_,rfl,nw52.out.to dn_n,HPw52.out,HKw52.out⟩
          | some y=>
            obtain ⟨x,re,im⟩:=y
            obtain ⟨t,ht,h9,ha,rfl,rfl,rfl,rfl⟩:=oneF_some ho
            simp only at hG
            cases hm:rec .product ⟨t.to,st1.opn,st1.ng⟩ with
            |none=>rw [hm] at hG;simp at hG
            | some y=>
              rw [hm] at hG
              obtain ⟨m,st2⟩:=y
              simp only [Option.bind_some] at hG
              have HM:=Lib.hid (HRec.out _ _ _ hm);have HF:=Lib.hid hG;have HT:=Lib.hid ht;have H9:=Lib.hid h9;have HA:Hid (among ⟨#[43,32,45]⟩ t.text=true):=Lib.hid ha
              clear hm hG ht h9 ha ho
              have l_p:=h_lt HPr.out.row
              have l_R:=h_lt RR.out
              have l_B:=h_lt RB.out
              go_wp2_with fail
              clear l_p l_R l_B
              refine (one_yes HPr.out HT.out ⟨#[43,32,45]⟩ (by decide) H9.out HA.out).mono ?_
              rintro r e51 ⟨rfl,hp,hk⟩
              have Re51_R:=Lib.hid (hk.at RR.out (by simp [n_R_p]))
              have Re51_B:=Lib.hid (hk.at RB.out (by simp [n_B_p]))
              have HKe51:=Lib.hid (HKr.out.trans hk (by simp))
              have ne51:=Lib.hid (HN1.out.kp hk (by simp [ns_n_p]))
              have us_ne51:=Nat.le_trans us_n hk.size
              have HPne51:=Lib.hid hp
              clear hp
              clear hk RR RB HKr HN1 us_n HPr
              have l_p:=h_lt HPne51.out.row
              have l_R:=h_lt Re51_R.out
              obtain ⟨l_B,xB_0,xB_1,xB_2,xB_3,xB_4,yB_0,yB_1,yB_2,yB_3,yB_4⟩:=cf5 Re51_B.out
              go_upto_region 5 with fail
              have HCm:=Lib.hid (hands_at HM.out HPne51.out)
              go_upto_region 5 with fail
              go_region_law ((refine step_call (f:=261) (vals:= #[.pointer (some ⟨p,0,none⟩)]) rfl _ rfl (by kernel_rfl) (HCm.out _ (by with_reducible repeat (first|exact k0 _ _|refine kA ?_ _|refine kD ?_|refine kS ?_ (by simp)|refine kM ?_ (by simp)))) ?_;rintro v u_ ⟨hn,hp,hk⟩;obtain ⟨mt,mm,ma,ml,mc,mr,mi,rfl,-,-⟩:=hn.shape;have r_R:=hk.at Re51_R.out (by simp [n_R_p]);have l_R:=h_lt r_R;have r_B:=hk.at Re51_B.out (by simp [n_B_p]);have l_B:=h_lt r_B;have zB_0:=cell_of_heap r_B 0;have zfB_0:=frozen_of_heap r_B 0;have zB_1:=cell_of_heap r_B 1;have zfB_1:=frozen_of_heap r_B 1;have zB_2:=cell_of_heap r_B 2;have zfB_2:=frozen_of_heap r_B 2;have zB_3:=cell_of_heap r_B 3;have zfB_3:=frozen_of_heap r_B 3;have zB_4:=cell_of_heap r_B 4;have zfB_4:=frozen_of_heap r_B 4;simp at zB_0 zB_1 zB_2 zB_3 zB_4))
              all_goals
                have Ru__R:=Lib.hid (hk.at Re51_R.out (by simp [n_R_p]))
                have Ru__B:=Lib.hid (hk.at Re51_B.out (by simp [n_B_p]))
                have HKu_:=Lib.hid (HKe51.out.trans hk (by simp))
                have nu_:=Lib.hid (ne51.out.kp hk (by simp [ns_n_p]))
                have us_nu_:=Nat.le_trans us_ne51 hk.size
                have HPnu_:=Lib.hid hp
                have mu_:=Lib.hid hn
                have o_m:w.heap.size≤e51.heap.size:=HKe51.out.size
                have ns_m_p:¬(Seg e51.heap.size u_.heap.size) (p):=fun h=>Nat.not_lt_of_le h.1 (h_lt HPne51.out.row)
                have ns_m_R:¬(Seg e51.heap.size u_.heap.size) (w.heap.size):=fun h=>Nat.not_lt_of_le h.1 (h_lt Re51_R.out)
                have ns_m_B:¬(Seg e51.heap.size u_.heap.size) (e2.heap.size):=fun h=>Nat.not_lt_of_le h.1 (h_lt Re51_B.out)
                have up_m:∀g,(Seg e51.heap.size u_.heap.size) g→g<u_.heap.size:=fun _ h=>h.2
                have dn_m:∀g,(Seg e51.heap.size u_.heap.size) g→w.heap.size≤g:=fun _ h=>Nat.le_trans o_m h.1
                clear hn hp
                clear hk Re51_R Re51_B HKe51 ne51 us_ne51 HPne51 xB_0 xB_1 xB_2 xB_3 xB_4 yB_0 yB_1 yB_2 yB_3 yB_4
                have l_p:=h_lt HPnu_.out.row
                have l_R:=h_lt Ru__R.out
                have l_B:=h_lt Ru__B.out
                go_wp2_with fail
                go_roundg f
                case measure=>omega
                case rel=>
                  refine inv_at (fun W=>Keeps [e2.heap.size] u_ W∧W.heap[e2.heap.size]? =some (.cells #[.int .i64 15,.string t.text,.float .f64 0,.slice (some ⟨u_.heap.size,0,none⟩) 2 2,.complex .f64 (placeOf s t.fr).1 (placeOf s t.fr).2] 58 (0,0))∧W.heap[u_.heap.size]? =some (.cells #[.int .i64 n1.kind,.string nt,.float .f64 nm,.slice na nl nc,.complex .f64 nr ni,.int .i64 m.kind,.string mt,.float .f64 mm,.slice ma ml mc,.complex .f64 mr mi] 58 (0,0))) ⟨(by with_reducible repeat (first|exact k0 _ _|refine kA ?_ _|refine kD ?_|refine kS ?_ (by simp)|refine kM ?_ (by simp))),(by simp only [hS,hA,hD,hM,World.size_setCell,World.size_drew,reduceIte,Option.map_some,Obj.put,Ru__B.out,Nat.ne_of_lt l_B,Nat.ne_of_gt l_B]<;>rfl),(by simp only [hS,hA,hD,hM,World.size_setCell,World.size_drew,reduceIte,Option.map_some,Obj.put,Ru__B.out,Nat.ne_of_lt l_B,Nat.ne_of_gt l_B]<;>rfl)⟩ ?_
                  rintro w52 ⟨Kw52,cw52_B,cw52_G⟩
                  have n_p_G:p≠u_.heap.size:=Nat.ne_of_lt l_p
                  have n_G_p:u_.heap.size≠p:=Nat.ne_of_gt l_p
                  have n_R_G:w.heap.size≠u_.heap.size:=Nat.ne_of_lt l_R
                  have n_G_R:u_.heap.size≠w.heap.size:=Nat.ne_of_gt l_R
                  have n_B_G:e2.heap.size≠u_.heap.size:=Nat.ne_of_lt l_B
                  have n_G_B:u_.heap.size≠e2.heap.size:=Nat.ne_of_gt l_B
                  have o_G:w.heap.size≤u_.heap.size:=HKu_.out.size
                  have g_G:13<u_.heap.size:=Nat.lt_trans g_p l_p
                  have ns_n_G:¬(S) (u_.heap.size):=fun h=>Nat.not_lt_of_le (us_nu_) (up_n _ h)
                  have ns_m_G:¬(Seg e51.heap.size u_.heap.size) (u_.heap.size):=fun h=>Nat.not_lt_of_le ((Nat.le_refl u_.heap.size)) (up_m _ h)
                  have Rw52_R:=Lib.hid (Kw52.at Ru__R.out (by simp [n_R_B]))
                  have HKw52:=Lib.hid (HKu_.out.trans Kw52 (by simp [o_B]))
                  have HPw52:=Lib.hid (HPnu_.out.keepN Kw52 (by simp [n_p_B]) (by simp [g_B]))
                  have nw52:=Lib.hid (nu_.out.kp Kw52 (by simp [ns_n_B]))
                  have us_nw52:=Nat.le_trans us_nu_ Kw52.size
                  have mw52:=Lib.hid (mu_.out.kp Kw52 (by simp [ns_m_B]))
                  have us_mw52:=Nat.le_trans (Nat.le_refl u_.heap.size) Kw52.size
                  have Rw52_B:=Lib.hid cw52_B
                  have Rw52_G:=Lib.hid cw52_G
                  clear Kw52 cw52_B cw52_G l_p l_R l_B Ru__R HKu_ HPnu_ nu_ us_nu_ mu_ Ru__B
                  exact ⟨.mk 15 t.text 0 [n1,m] (placeOf s t.fr).1 (placeOf s t.fr).2,_,t.text,0,some ⟨u_.heap.size,0,none⟩,2,2,_,_,(fun x=>S x∨(Seg e51.heap.size u_.heap.size) x∨x=u_.heap.size),w52.heap.size,HF.out,
                    .mk (.some (.inr (.inr rfl)) (h_lt Rw52_G.out) (row2 nw52.out (fun _ h=> .inl h) mw52.out (fun _ h=> .inr (.inl h)) Rw52_G.out)),
                    fun x h=>h.elim (fun h=>Nat.lt_of_lt_of_le (up_n x h) us_nw52) fun h=>h.elim (fun h=>Nat.lt_of_lt_of_le (up_m x h) us_mw52) fun h=>by rw [h];exact h_lt Rw52_G.out,
                    Nat.le_refl _,fun x h=>h.elim (dn_n x) fun h=>h.elim (dn_m x) fun h=>by rw [h];exact o_G,
                    (fun h=>h.elim ns_n_p fun h=>h.elim ns_m_p n_p_G),(fun h=>h.elim ns_n_R fun h=>h.elim ns_m_R n_R_G),(fun h=>h.elim ns_n_B fun h=>h.elim ns_m_B n_B_G),HPw52.out,HKw52.out,Rw52_R.out,Rw52_B.out⟩
end Go.Proofs.YteafcepaolofpaaGreatDoor
end
