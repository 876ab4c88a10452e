/- take, walked, where nothing is wrong. Made by a program (mkP.py). -/
import Derived.Test.YteafcepaolofpaaGreatDoorParB
set_option maxRecDepth 100000
set_option maxHeartbeats 4000000
set_option linter.unusedSimpArgs false
set_option linter.unusedVariables false
set_option linter.unusedSectionVars false
namespace Go.Proofs.YteafcepaolofpaaGreatDoor
open Go.RowKit

set_option maxHeartbeats 2000000 in
theorem take_40{s:ByteArray}{p:Nat}{st:PSt}{w:World}(h:PP s p st w){t:Tok}(ht:nextF s st.pos false=some t)(ho:st.opn<40)(hx:isT t ⟨#[40]⟩=true):
    Calls Tryz.prog 125 #[.pointer (some ⟨p,0,none⟩),.string ⟨#[40]⟩] w fun r w'=>r= .returned (.bool true)∧PP s p ⟨t.to,st.opn+1,st.ng⟩ w'∧Keeps [p] w w':=by
  have hi:=is_any h ht ⟨#[40]⟩
  rw [hx] at hi
  obtain ⟨le1,le2,le3⟩:=nextF_le ht h.le
  have hob:=h.ob
  have H:=Lib.hid h;have HI:=Lib.hid hi;have HT:=Lib.hid ht
  clear hi hx ht h
  obtain ⟨kd,tx,nm,fr,te⟩:=t
  obtain ⟨pos,opn,ng⟩:=st
  simp only at le1 le2 le3 hob ho
  obtain ⟨ob1,ob2⟩:=hob
  go_enter Tryz.func125,Tryz.ntmps125
  go_wp2_with fail
  refine HI.out.mono ?_
  rintro r w0 ⟨rfl,hk0⟩
  have HP0:=Lib.hid (H.out.keep hk0);have HK0:=Lib.hid hk0
  have c1:=cell_of_heap HP0.out.row 1
  have hlt:=h_lt HP0.out.row
  simp at c1
  clear hk0
  go_wp2_with fail
  refine (peek_any HP0.out HT.out H.out.le).mono ?_
  rintro r w1 ⟨rfl,hk1⟩
  have HP1:=Lib.hid (HP0.out.keep hk1)
  have HK1:=Lib.hid (HK0.out.trans hk1 (by simp))
  clear hk1 c1 hlt
  go_wp2_with ((with_reducible show wpList _ _ _ (Oper.mk none (.store 109 _ _) _ _ _ _::_) _ _);refine stT 109 w1.heap.size 0 _ (h_new _ _) rfl (.agg #[.int .i64 kd,.string tx,.float .f64 nm,.int .i64 fr,.int .i64 te]) rfl (by kernel_rfl) (by simp [Value.cells]) (by simp [Value.cells,Value.oneCell']) ?_)
  intro w2 hs2
  have x0:=cell_of_heap hs2.row 0
  have x1:=cell_of_heap hs2.row 1
  have x2:=cell_of_heap hs2.row 2
  have x3:=cell_of_heap hs2.row 3
  have x4:=cell_of_heap hs2.row 4
  simp at x0 x1 x2 x3 x4
  have hsz2:=HK1.out.size
  have HTR2:=Lib.hid hs2.row
  have hst2:Keeps [] w1 w2:=(Keeps.alloc [] w1 (tokC 0 ⟨#[]⟩ 0 0 0)).trans hs2.keeps (by simp)
  have HST2:=Lib.hid hst2
  have HK2:=Lib.hid (HK1.out.trans hst2 (by simp))
  clear hs2 hst2

  have HP2:=Lib.hid (HP1.out.keep HST2.out)
  have c0:=cell_of_heap HP2.out.row 0
  have f0:=frozen_of_heap HP2.out.row 0
  have c1:=cell_of_heap HP2.out.row 1
  have f1:=frozen_of_heap HP2.out.row 1
  have c2:=cell_of_heap HP2.out.row 2
  have f2:=frozen_of_heap HP2.out.row 2
  have c3:=cell_of_heap HP2.out.row 3
  have f3:=frozen_of_heap HP2.out.row 3
  have c4:=cell_of_heap HP2.out.row 4
  have f4:=frozen_of_heap HP2.out.row 4
  have c5:=cell_of_heap HP2.out.row 5
  have f5:=frozen_of_heap HP2.out.row 5
  simp at c0 c1 c2 c3 c4 c5

  have hlt:=h_lt HP2.out.row
  go_wp2_with fail
  go_ret
  have hrow:((w2.setCell ⟨p,1,none⟩ (.int .i64 te)).setCell ⟨p,2,none⟩ (.int .i64 (opn+1))).heap[p]? =some (parC s ⟨te,opn+1,ng⟩):=by
    have:=(h_set_eq (i:=2) (u:= .int .i64 (opn+1)) (h_set_eq (i:=1) (u:= .int .i64 te) HP2.out.row))
    simpa using this
  have hkp:Keeps [p] w2 ((w2.setCell ⟨p,1,none⟩ (.int .i64 te)).setCell ⟨p,2,none⟩ (.int .i64 (opn+1))):=(Keeps.trans (Keeps.trans (Keeps.refl [p] w2) (Keeps.setCell [p] _ _ _ (by simp)) (by simp)) (Keeps.setCell [p] _ _ _ (by simp)) (by simp))
  exact ⟨rfl,⟨HP2.out.gl.keep hkp (by simp;exact HP2.out.p),hrow,HP2.out.p,HP2.out.size,le2,by simp only;omega⟩,(HK2.out.weaken (fp':= [p]) (by simp)).trans hkp (by simp)⟩

set_option maxHeartbeats 2000000 in
theorem take_91{s:ByteArray}{p:Nat}{st:PSt}{w:World}(h:PP s p st w){t:Tok}(ht:nextF s st.pos false=some t)(ho:st.opn<40)(hx:isT t ⟨#[91]⟩=true):
    Calls Tryz.prog 125 #[.pointer (some ⟨p,0,none⟩),.string ⟨#[91]⟩] w fun r w'=>r= .returned (.bool true)∧PP s p ⟨t.to,st.opn+1,st.ng⟩ w'∧Keeps [p] w w':=by
  have hi:=is_any h ht ⟨#[91]⟩
  rw [hx] at hi
  obtain ⟨le1,le2,le3⟩:=nextF_le ht h.le
  have hob:=h.ob
  have H:=Lib.hid h;have HI:=Lib.hid hi;have HT:=Lib.hid ht
  clear hi hx ht h
  obtain ⟨kd,tx,nm,fr,te⟩:=t
  obtain ⟨pos,opn,ng⟩:=st
  simp only at le1 le2 le3 hob ho
  obtain ⟨ob1,ob2⟩:=hob
  go_enter Tryz.func125,Tryz.ntmps125
  go_wp2_with fail
  refine HI.out.mono ?_
  rintro r w0 ⟨rfl,hk0⟩
  have HP0:=Lib.hid (H.out.keep hk0);have HK0:=Lib.hid hk0
  have c1:=cell_of_heap HP0.out.row 1
  have hlt:=h_lt HP0.out.row
  simp at c1
  clear hk0
  go_wp2_with fail
  refine (peek_any HP0.out HT.out H.out.le).mono ?_
  rintro r w1 ⟨rfl,hk1⟩
  have HP1:=Lib.hid (HP0.out.keep hk1)
  have HK1:=Lib.hid (HK0.out.trans hk1 (by simp))
  clear hk1 c1 hlt
  go_wp2_with ((with_reducible show wpList _ _ _ (Oper.mk none (.store 109 _ _) _ _ _ _::_) _ _);refine stT 109 w1.heap.size 0 _ (h_new _ _) rfl (.agg #[.int .i64 kd,.string tx,.float .f64 nm,.int .i64 fr,.int .i64 te]) rfl (by kernel_rfl) (by simp [Value.cells]) (by simp [Value.cells,Value.oneCell']) ?_)
  intro w2 hs2
  have x0:=cell_of_heap hs2.row 0
  have x1:=cell_of_heap hs2.row 1
  have x2:=cell_of_heap hs2.row 2
  have x3:=cell_of_heap hs2.row 3
  have x4:=cell_of_heap hs2.row 4
  simp at x0 x1 x2 x3 x4
  have hsz2:=HK1.out.size
  have HTR2:=Lib.hid hs2.row
  have hst2:Keeps [] w1 w2:=(Keeps.alloc [] w1 (tokC 0 ⟨#[]⟩ 0 0 0)).trans hs2.keeps (by simp)
  have HST2:=Lib.hid hst2
  have HK2:=Lib.hid (HK1.out.trans hst2 (by simp))
  clear hs2 hst2

  have HP2:=Lib.hid (HP1.out.keep HST2.out)
  have c0:=cell_of_heap HP2.out.row 0
  have f0:=frozen_of_heap HP2.out.row 0
  have c1:=cell_of_heap HP2.out.row 1
  have f1:=frozen_of_heap HP2.out.row 1
  have c2:=cell_of_heap HP2.out.row 2
  have f2:=frozen_of_heap HP2.out.row 2
  have c3:=cell_of_heap HP2.out.row 3
  have f3:=frozen_of_heap HP2.out.row 3
  have c4:=cell_of_heap HP2.out.row 4
  have f4:=frozen_of_heap HP2.out.row 4
  have c5:=cell_of_heap HP2.out.row 5
  have f5:=frozen_of_heap HP2.out.row 5
  simp at c0 c1 c2 c3 c4 c5

  have hlt:=h_lt HP2.out.row
  go_wp2_with fail
  go_ret
  have hrow:((w2.setCell ⟨p,1,none⟩ (.int .i64 te)).setCell ⟨p,2,none⟩ (.int .i64 (opn+1))).heap[p]? =some (parC s ⟨te,opn+1,ng⟩):=by
    have:=(h_set_eq (i:=2) (u:= .int .i64 (opn+1)) (h_set_eq (i:=1) (u:= .int .i64 te) HP2.out.row))
    simpa using this
  have hkp:Keeps [p] w2 ((w2.setCell ⟨p,1,none⟩ (.int .i64 te)).setCell ⟨p,2,none⟩ (.int .i64 (opn+1))):=(Keeps.trans (Keeps.trans (Keeps.refl [p] w2) (Keeps.setCell [p] _ _ _ (by simp)) (by simp)) (Keeps.setCell [p] _ _ _ (by simp)) (by simp))
  exact ⟨rfl,⟨HP2.out.gl.keep hkp (by simp;exact HP2.out.p),hrow,HP2.out.p,HP2.out.size,le2,by simp only;omega⟩,(HK2.out.weaken (fp':= [p]) (by simp)).trans hkp (by simp)⟩

set_option maxHeartbeats 2000000 in
theorem take_123{s:ByteArray}{p:Nat}{st:PSt}{w:World}(h:PP s p st w){t:Tok}(ht:nextF s st.pos false=some t)(ho:st.opn<40)(hx:isT t ⟨#[123]⟩=true):
    Calls Tryz.prog 125 #[.pointer (some ⟨p,0,none⟩),.string ⟨#[123]⟩] w fun r w'=>r= .returned (.bool true)∧PP s p ⟨t.to,st.opn+1,st.ng⟩ w'∧Keeps [p] w w':=by
  have hi:=is_any h ht ⟨#[123]⟩
  rw [hx] at hi
  obtain ⟨le1,le2,le3⟩:=nextF_le ht h.le
  have hob:=h.ob
  have H:=Lib.hid h;have HI:=Lib.hid hi;have HT:=Lib.hid ht
  clear hi hx ht h
  obtain ⟨kd,tx,nm,fr,te⟩:=t
  obtain ⟨pos,opn,ng⟩:=st
  simp only at le1 le2 le3 hob ho
  obtain ⟨ob1,ob2⟩:=hob
  go_enter Tryz.func125,Tryz.ntmps125
  go_wp2_with fail
  refine HI.out.mono ?_
  rintro r w0 ⟨rfl,hk0⟩
  have HP0:=Lib.hid (H.out.keep hk0);have HK0:=Lib.hid hk0
  have c1:=cell_of_heap HP0.out.row 1
  have hlt:=h_lt HP0.out.row
  simp at c1
  clear hk0
  go_wp2_with fail
  refine (peek_any HP0.out HT.out H.out.le).mono ?_
  rintro r w1 ⟨rfl,hk1⟩
  have HP1:=Lib.hid (HP0.out.keep hk1)
  have HK1:=Lib.hid (HK0.out.trans hk1 (by simp))
  clear hk1 c1 hlt
  go_wp2_with ((with_reducible show wpList _ _ _ (Oper.mk none (.store 109 _ _) _ _ _ _::_) _ _);refine stT 109 w1.heap.size 0 _ (h_new _ _) rfl (.agg #[.int .i64 kd,.string tx,.float .f64 nm,.int .i64 fr,.int .i64 te]) rfl (by kernel_rfl) (by simp [Value.cells]) (by simp [Value.cells,Value.oneCell']) ?_)
  intro w2 hs2
  have x0:=cell_of_heap hs2.row 0
  have x1:=cell_of_heap hs2.row 1
  have x2:=cell_of_heap hs2.row 2
  have x3:=cell_of_heap hs2.row 3
  have x4:=cell_of_heap hs2.row 4
  simp at x0 x1 x2 x3 x4
  have hsz2:=HK1.out.size
  have HTR2:=Lib.hid hs2.row
  have hst2:Keeps [] w1 w2:=(Keeps.alloc [] w1 (tokC 0 ⟨#[]⟩ 0 0 0)).trans hs2.keeps (by simp)
  have HST2:=Lib.hid hst2
  have HK2:=Lib.hid (HK1.out.trans hst2 (by simp))
  clear hs2 hst2

  have HP2:=Lib.hid (HP1.out.keep HST2.out)
  have c0:=cell_of_heap HP2.out.row 0
  have f0:=frozen_of_heap HP2.out.row 0
  have c1:=cell_of_heap HP2.out.row 1
  have f1:=frozen_of_heap HP2.out.row 1
  have c2:=cell_of_heap HP2.out.row 2
  have f2:=frozen_of_heap HP2.out.row 2
  have c3:=cell_of_heap HP2.out.row 3
  have f3:=frozen_of_heap HP2.out.row 3
  have c4:=cell_of_heap HP2.out.row 4
  have f4:=frozen_of_heap HP2.out.row 4
  have c5:=cell_of_heap HP2.out.row 5
  have f5:=frozen_of_heap HP2.out.row 5
  simp at c0 c1 c2 c3 c4 c5

  have hlt:=h_lt HP2.out.row
  go_wp2_with fail
  go_ret
  have hrow:((w2.setCell ⟨p,1,none⟩ (.int .i64 te)).setCell ⟨p,2,none⟩ (.int .i64 (opn+1))).heap[p]? =some (parC s ⟨te,opn+1,ng⟩):=by
    have:=(h_set_eq (i:=2) (u:= .int .i64 (opn+1)) (h_set_eq (i:=1) (u:= .int .i64 te) HP2.out.row))
    simpa using this
  have hkp:Keeps [p] w2 ((w2.setCell ⟨p,1,none⟩ (.int .i64 te)).setCell ⟨p,2,none⟩ (.int .i64 (opn+1))):=(Keeps.trans (Keeps.trans (Keeps.refl [p] w2) (Keeps.setCell [p] _ _ _ (by simp)) (by simp)) (Keeps.setCell [p] _ _ _ (by simp)) (by simp))
  exact ⟨rfl,⟨HP2.out.gl.keep hkp (by simp;exact HP2.out.p),hrow,HP2.out.p,HP2.out.size,le2,by simp only;omega⟩,(HK2.out.weaken (fp':= [p]) (by simp)).trans hkp (by simp)⟩

set_option maxHeartbeats 2000000 in
theorem take_41{s:ByteArray}{p:Nat}{st:PSt}{w:World}(h:PP s p st w){t:Tok}(ht:nextF s st.pos false=some t)(ho: -100<st.opn)(hx:isT t ⟨#[41]⟩=true):
    Calls Tryz.prog 125 #[.pointer (some ⟨p,0,none⟩),.string ⟨#[41]⟩] w fun r w'=>r= .returned (.bool true)∧PP s p ⟨t.to,st.opn -1,st.ng⟩ w'∧Keeps [p] w w':=by
  have hi:=is_any h ht ⟨#[41]⟩
  rw [hx] at hi
  obtain ⟨le1,le2,le3⟩:=nextF_le ht h.le
  have hob:=h.ob
  have H:=Lib.hid h;have HI:=Lib.hid hi;have HT:=Lib.hid ht
  clear hi hx ht h
  obtain ⟨kd,tx,nm,fr,te⟩:=t
  obtain ⟨pos,opn,ng⟩:=st
  simp only at le1 le2 le3 hob ho
  obtain ⟨ob1,ob2⟩:=hob
  go_enter Tryz.func125,Tryz.ntmps125
  go_wp2_with fail
  refine HI.out.mono ?_
  rintro r w0 ⟨rfl,hk0⟩
  have HP0:=Lib.hid (H.out.keep hk0);have HK0:=Lib.hid hk0
  have c1:=cell_of_heap HP0.out.row 1
  have hlt:=h_lt HP0.out.row
  simp at c1
  clear hk0
  go_wp2_with fail
  refine (peek_any HP0.out HT.out H.out.le).mono ?_
  rintro r w1 ⟨rfl,hk1⟩
  have HP1:=Lib.hid (HP0.out.keep hk1)
  have HK1:=Lib.hid (HK0.out.trans hk1 (by simp))
  clear hk1 c1 hlt
  go_wp2_with ((with_reducible show wpList _ _ _ (Oper.mk none (.store 109 _ _) _ _ _ _::_) _ _);refine stT 109 w1.heap.size 0 _ (h_new _ _) rfl (.agg #[.int .i64 kd,.string tx,.float .f64 nm,.int .i64 fr,.int .i64 te]) rfl (by kernel_rfl) (by simp [Value.cells]) (by simp [Value.cells,Value.oneCell']) ?_)
  intro w2 hs2
  have x0:=cell_of_heap hs2.row 0
  have x1:=cell_of_heap hs2.row 1
  have x2:=cell_of_heap hs2.row 2
  have x3:=cell_of_heap hs2.row 3
  have x4:=cell_of_heap hs2.row 4
  simp at x0 x1 x2 x3 x4
  have hsz2:=HK1.out.size
  have HTR2:=Lib.hid hs2.row
  have hst2:Keeps [] w1 w2:=(Keeps.alloc [] w1 (tokC 0 ⟨#[]⟩ 0 0 0)).trans hs2.keeps (by simp)
  have HST2:=Lib.hid hst2
  have HK2:=Lib.hid (HK1.out.trans hst2 (by simp))
  clear hs2 hst2

  have HP2:=Lib.hid (HP1.out.keep HST2.out)
  have c0:=cell_of_heap HP2.out.row 0
  have f0:=frozen_of_heap HP2.out.row 0
  have c1:=cell_of_heap HP2.out.row 1
  have f1:=frozen_of_heap HP2.out.row 1
  have c2:=cell_of_heap HP2.out.row 2
  have f2:=frozen_of_heap HP2.out.row 2
  have c3:=cell_of_heap HP2.out.row 3
  have f3:=frozen_of_heap HP2.out.row 3
  have c4:=cell_of_heap HP2.out.row 4
  have f4:=frozen_of_heap HP2.out.row 4
  have c5:=cell_of_heap HP2.out.row 5
  have f5:=frozen_of_heap HP2.out.row 5
  simp at c0 c1 c2 c3 c4 c5

  have hlt:=h_lt HP2.out.row
  go_wp2_with fail
  go_ret
  have hrow:((w2.setCell ⟨p,1,none⟩ (.int .i64 te)).setCell ⟨p,2,none⟩ (.int .i64 (opn -1))).heap[p]? =some (parC s ⟨te,opn -1,ng⟩):=by
    have:=(h_set_eq (i:=2) (u:= .int .i64 (opn -1)) (h_set_eq (i:=1) (u:= .int .i64 te) HP2.out.row))
    simpa using this
  have hkp:Keeps [p] w2 ((w2.setCell ⟨p,1,none⟩ (.int .i64 te)).setCell ⟨p,2,none⟩ (.int .i64 (opn -1))):=(Keeps.trans (Keeps.trans (Keeps.refl [p] w2) (Keeps.setCell [p] _ _ _ (by simp)) (by simp)) (Keeps.setCell [p] _ _ _ (by simp)) (by simp))
  exact ⟨rfl,⟨HP2.out.gl.keep hkp (by simp;exact HP2.out.p),hrow,HP2.out.p,HP2.out.size,le2,by simp only;omega⟩,(HK2.out.weaken (fp':= [p]) (by simp)).trans hkp (by simp)⟩

set_option maxHeartbeats 2000000 in
theorem take_93{s:ByteArray}{p:Nat}{st:PSt}{w:World}(h:PP s p st w){t:Tok}(ht:nextF s st.pos false=some t)(ho: -100<st.opn)(hx:isT t ⟨#[93]⟩=true):
    Calls Tryz.prog 125 #[.pointer (some ⟨p,0,none⟩),.string ⟨#[93]⟩] w fun r w'=>r= .returned (.bool true)∧PP s p ⟨t.to,st.opn -1,st.ng⟩ w'∧Keeps [p] w w':=by
  have hi:=is_any h ht ⟨#[93]⟩
  rw [hx] at hi
  obtain ⟨le1,le2,le3⟩:=nextF_le ht h.le
  have hob:=h.ob
  have H:=Lib.hid h;have HI:=Lib.hid hi;have HT:=Lib.hid ht
  clear hi hx ht h
  obtain ⟨kd,tx,nm,fr,te⟩:=t
  obtain ⟨pos,opn,ng⟩:=st
  simp only at le1 le2 le3 hob ho
  obtain ⟨ob1,ob2⟩:=hob
  go_enter Tryz.func125,Tryz.ntmps125
  go_wp2_with fail
  refine HI.out.mono ?_
  rintro r w0 ⟨rfl,hk0⟩
  have HP0:=Lib.hid (H.out.keep hk0);have HK0:=Lib.hid hk0
  have c1:=cell_of_heap HP0.out.row 1
  have hlt:=h_lt HP0.out.row
  simp at c1
  clear hk0
  go_wp2_with fail
  refine (peek_any HP0.out HT.out H.out.le).mono ?_
  rintro r w1 ⟨rfl,hk1⟩
  have HP1:=Lib.hid (HP0.out.keep hk1)
  have HK1:=Lib.hid (HK0.out.trans hk1 (by simp))
  clear hk1 c1 hlt
  go_wp2_with ((with_reducible show wpList _ _ _ (Oper.mk none (.store 109 _ _) _ _ _ _::_) _ _);refine stT 109 w1.heap.size 0 _ (h_new _ _) rfl (.agg #[.int .i64 kd,.string tx,.float .f64 nm,.int .i64 fr,.int .i64 te]) rfl (by kernel_rfl) (by simp [Value.cells]) (by simp [Value.cells,Value.oneCell']) ?_)
  intro w2 hs2
  have x0:=cell_of_heap hs2.row 0
  have x1:=cell_of_heap hs2.row 1
  have x2:=cell_of_heap hs2.row 2
  have x3:=cell_of_heap hs2.row 3
  have x4:=cell_of_heap hs2.row 4
  simp at x0 x1 x2 x3 x4
  have hsz2:=HK1.out.size
  have HTR2:=Lib.hid hs2.row
  have hst2:Keeps [] w1 w2:=(Keeps.alloc [] w1 (tokC 0 ⟨#[]⟩ 0 0 0)).trans hs2.keeps (by simp)
  have HST2:=Lib.hid hst2
  have HK2:=Lib.hid (HK1.out.trans hst2 (by simp))
  clear hs2 hst2

  have HP2:=Lib.hid (HP1.out.keep HST2.out)
  have c0:=cell_of_heap HP2.out.row 0
  have f0:=frozen_of_heap HP2.out.row 0
  have c1:=cell_of_heap HP2.out.row 1
  have f1:=frozen_of_heap HP2.out.row 1
  have c2:=cell_of_heap HP2.out.row 2
  have f2:=frozen_of_heap HP2.out.row 2
  have c3:=cell_of_heap HP2.out.row 3
  have f3:=frozen_of_heap HP2.out.row 3
  have c4:=cell_of_heap HP2.out.row 4
  have f4:=frozen_of_heap HP2.out.row 4
  have c5:=cell_of_heap HP2.out.row 5
  have f5:=frozen_of_heap HP2.out.row 5
  simp at c0 c1 c2 c3 c4 c5

  have hlt:=h_lt HP2.out.row
  go_wp2_with fail
  go_ret
  have hrow:((w2.setCell ⟨p,1,none⟩ (.int .i64 te)).setCell ⟨p,2,none⟩ (.int .i64 (opn -1))).heap[p]? =some (parC s ⟨te,opn -1,ng⟩):=by
    have:=(h_set_eq (i:=2) (u:= .int .i64 (opn -1)) (h_set_eq (i:=1) (u:= .int .i64 te) HP2.out.row))
    simpa using this
  have hkp:Keeps [p] w2 ((w2.setCell ⟨p,1,none⟩ (.int .i64 te)).setCell ⟨p,2,none⟩ (.int .i64 (opn -1))):=(Keeps.trans (Keeps.trans (Keeps.refl [p] w2) (Keeps.setCell [p] _ _ _ (by simp)) (by simp)) (Keeps.setCell [p] _ _ _ (by simp)) (by simp))
  exact ⟨rfl,⟨HP2.out.gl.keep hkp (by simp;exact HP2.out.p),hrow,HP2.out.p,HP2.out.size,le2,by simp only;omega⟩,(HK2.out.weaken (fp':= [p]) (by simp)).trans hkp (by simp)⟩

set_option maxHeartbeats 2000000 in
theorem take_125{s:ByteArray}{p:Nat}{st:PSt}{w:World}(h:PP s p st w){t:Tok}(ht:nextF s st.pos false=some t)(ho: -100<st.opn)(hx:isT t ⟨#[125]⟩=true):
    Calls Tryz.prog 125 #[.pointer (some ⟨p,0,none⟩),.string ⟨#[125]⟩] w fun r w'=>r= .returned (.bool true)∧PP s p ⟨t.to,st.opn -1,st.ng⟩ w'∧Keeps [p] w w':=by
  have hi:=is_any h ht ⟨#[125]⟩
  rw [hx] at hi
  obtain ⟨le1,le2,le3⟩:=nextF_le ht h.le
  have hob:=h.ob
  have H:=Lib.hid h;have HI:=Lib.hid hi;have HT:=Lib.hid ht
  clear hi hx ht h
  obtain ⟨kd,tx,nm,fr,te⟩:=t
  obtain ⟨pos,opn,ng⟩:=st
  simp only at le1 le2 le3 hob ho
  obtain ⟨ob1,ob2⟩:=hob
  go_enter Tryz.func125,Tryz.ntmps125
  go_wp2_with fail
  refine HI.out.mono ?_
  rintro r w0 ⟨rfl,hk0⟩
  have HP0:=Lib.hid (H.out.keep hk0);have HK0:=Lib.hid hk0
  have c1:=cell_of_heap HP0.out.row 1
  have hlt:=h_lt HP0.out.row
  simp at c1
  clear hk0
  go_wp2_with fail
  refine (peek_any HP0.out HT.out H.out.le).mono ?_
  rintro r w1 ⟨rfl,hk1⟩
  have HP1:=Lib.hid (HP0.out.keep hk1)
  have HK1:=Lib.hid (HK0.out.trans hk1 (by simp))
  clear hk1 c1 hlt
  go_wp2_with ((with_reducible show wpList _ _ _ (Oper.mk none (.store 109 _ _) _ _ _ _::_) _ _);refine stT 109 w1.heap.size 0 _ (h_new _ _) rfl (.agg #[.int .i64 kd,.string tx,.float .f64 nm,.int .i64 fr,.int .i64 te]) rfl (by kernel_rfl) (by simp [Value.cells]) (by simp [Value.cells,Value.oneCell']) ?_)
  intro w2 hs2
  have x0:=cell_of_heap hs2.row 0
  have x1:=cell_of_heap hs2.row 1
  have x2:=cell_of_heap hs2.row 2
  have x3:=cell_of_heap hs2.row 3
  have x4:=cell_of_heap hs2.row 4
  simp at x0 x1 x2 x3 x4
  have hsz2:=HK1.out.size
  have HTR2:=Lib.hid hs2.row
  have hst2:Keeps [] w1 w2:=(Keeps.alloc [] w1 (tokC 0 ⟨#[]⟩ 0 0 0)).trans hs2.keeps (by simp)
  have HST2:=Lib.hid hst2
  have HK2:=Lib.hid (HK1.out.trans hst2 (by simp))
  clear hs2 hst2

  have HP2:=Lib.hid (HP1.out.keep HST2.out)
  have c0:=cell_of_heap HP2.out.row 0
  have f0:=frozen_of_heap HP2.out.row 0
  have c1:=cell_of_heap HP2.out.row 1
  have f1:=frozen_of_heap HP2.out.row 1
  have c2:=cell_of_heap HP2.out.row 2
  have f2:=frozen_of_heap HP2.out.row 2
  have c3:=cell_of_heap HP2.out.row 3
  have f3:=frozen_of_heap HP2.out.row 3
  have c4:=cell_of_heap HP2.out.row 4
  have f4:=frozen_of_heap HP2.out.row 4
  have c5:=cell_of_heap HP2.out.row 5
  have f5:=frozen_of_heap HP2.out.row 5
  simp at c0 c1 c2 c3 c4 c5

  have hlt:=h_lt HP2.out.row
  go_wp2_with fail
  go_ret
  have hrow:((w2.setCell ⟨p,1,none⟩ (.int .i64 te)).setCell ⟨p,2,none⟩ (.int .i64 (opn -1))).heap[p]? =some (parC s ⟨te,opn -1,ng⟩):=by
    have:=(h_set_eq (i:=2) (u:= .int .i64 (opn -1)) (h_set_eq (i:=1) (u:= .int .i64 te) HP2.out.row))
    simpa using this
  have hkp:Keeps [p] w2 ((w2.setCell ⟨p,1,none⟩ (.int .i64 te)).setCell ⟨p,2,none⟩ (.int .i64 (opn -1))):=(Keeps.trans (Keeps.trans (Keeps.refl [p] w2) (Keeps.setCell [p] _ _ _ (by simp)) (by simp)) (Keeps.setCell [p] _ _ _ (by simp)) (by simp))
  exact ⟨rfl,⟨HP2.out.gl.keep hkp (by simp;exact HP2.out.p),hrow,HP2.out.p,HP2.out.size,le2,by simp only;omega⟩,(HK2.out.weaken (fp':= [p]) (by simp)).trans hkp (by simp)⟩

set_option maxHeartbeats 2000000 in
theorem take_plain{s:ByteArray}{p:Nat}{st:PSt}{w:World}(h:PP s p st w){t:Tok}(ht:nextF s st.pos false=some t){x:ByteArray}(x40:(x.toList== [40])=false)(x91:(x.toList== [91])=false)(x123:(x.toList== [123])=false)(x41:(x.toList== [41])=false)(x93:(x.toList== [93])=false)(x125:(x.toList== [125])=false)(hx:isT t x=true):
    Calls Tryz.prog 125 #[.pointer (some ⟨p,0,none⟩),.string x] w fun r w'=>r= .returned (.bool true)∧PP s p ⟨t.to,st.opn,st.ng⟩ w'∧Keeps [p] w w':=by
  have hi:=is_any h ht x
  rw [hx] at hi
  obtain ⟨le1,le2,le3⟩:=nextF_le ht h.le
  have hob:=h.ob
  have H:=Lib.hid h;have HI:=Lib.hid hi;have HT:=Lib.hid ht
  clear hi hx ht h
  obtain ⟨kd,tx,nm,fr,te⟩:=t
  obtain ⟨pos,opn,ng⟩:=st
  simp only at le1 le2 le3 hob
  obtain ⟨ob1,ob2⟩:=hob
  go_enter Tryz.func125,Tryz.ntmps125
  go_wp2_with fail
  refine HI.out.mono ?_
  rintro r w0 ⟨rfl,hk0⟩
  have HP0:=Lib.hid (H.out.keep hk0);have HK0:=Lib.hid hk0
  have c1:=cell_of_heap HP0.out.row 1
  have hlt:=h_lt HP0.out.row
  simp at c1
  clear hk0
  go_wp2_with fail
  refine (peek_any HP0.out HT.out H.out.le).mono ?_
  rintro r w1 ⟨rfl,hk1⟩
  have HP1:=Lib.hid (HP0.out.keep hk1)
  have HK1:=Lib.hid (HK0.out.trans hk1 (by simp))
  clear hk1 c1 hlt
  go_wp2_with ((with_reducible show wpList _ _ _ (Oper.mk none (.store 109 _ _) _ _ _ _::_) _ _);refine stT 109 w1.heap.size 0 _ (h_new _ _) rfl (.agg #[.int .i64 kd,.string tx,.float .f64 nm,.int .i64 fr,.int .i64 te]) rfl (by kernel_rfl) (by simp [Value.cells]) (by simp [Value.cells,Value.oneCell']) ?_)
  intro w2 hs2
  have x0:=cell_of_heap hs2.row 0
  have x1:=cell_of_heap hs2.row 1
  have x2:=cell_of_heap hs2.row 2
  have x3:=cell_of_heap hs2.row 3
  have x4:=cell_of_heap hs2.row 4
  simp at x0 x1 x2 x3 x4
  have hsz2:=HK1.out.size
  have HTR2:=Lib.hid hs2.row
  have hst2:Keeps [] w1 w2:=(Keeps.alloc [] w1 (tokC 0 ⟨#[]⟩ 0 0 0)).trans hs2.keeps (by simp)
  have HST2:=Lib.hid hst2
  have HK2:=Lib.hid (HK1.out.trans hst2 (by simp))
  clear hs2 hst2

  have HP2:=Lib.hid (HP1.out.keep HST2.out)
  have c0:=cell_of_heap HP2.out.row 0
  have f0:=frozen_of_heap HP2.out.row 0
  have c1:=cell_of_heap HP2.out.row 1
  have f1:=frozen_of_heap HP2.out.row 1
  have c2:=cell_of_heap HP2.out.row 2
  have f2:=frozen_of_heap HP2.out.row 2
  have c3:=cell_of_heap HP2.out.row 3
  have f3:=frozen_of_heap HP2.out.row 3
  have c4:=cell_of_heap HP2.out.row 4
  have f4:=frozen_of_heap HP2.out.row 4
  have c5:=cell_of_heap HP2.out.row 5
  have f5:=frozen_of_heap HP2.out.row 5
  simp at c0 c1 c2 c3 c4 c5

  have hlt:=h_lt HP2.out.row
  go_wp2_with fail
  go_ret
  have hrow:(w2.setCell ⟨p,1,none⟩ (.int .i64 te)).heap[p]? =some (parC s ⟨te,opn,ng⟩):=by
    have:=(h_set_eq (i:=1) (u:= .int .i64 te) HP2.out.row)
    simpa using this
  have hkp:Keeps [p] w2 (w2.setCell ⟨p,1,none⟩ (.int .i64 te)):=(Keeps.trans (Keeps.refl [p] w2) (Keeps.setCell [p] _ _ _ (by simp)) (by simp))
  exact ⟨rfl,⟨HP2.out.gl.keep hkp (by simp;exact HP2.out.p),hrow,HP2.out.p,HP2.out.size,le2,by simp only;omega⟩,(HK2.out.weaken (fp':= [p]) (by simp)).trans hkp (by simp)⟩
end Go.Proofs.YteafcepaolofpaaGreatDoor
