/- Texts of this claim, joined: ParG, ParH, Nodes, Levels. -/
import Derived.Test.YteafcepaolofpaaGreatDoorParF
set_option maxRecDepth 100000
set_option maxHeartbeats 4000000
set_option linter.unusedSimpArgs false
set_option linter.unusedVariables false
set_option linter.unusedSectionVars false
section
/- one, walked, where nothing is wrong. Made by a program (mkQ.py). -/
namespace Go.Proofs.YteafcepaolofpaaGreatDoor
open Go.RowKit

theorem Keeps.nil{w w':World}(h:Keeps [] w w')(p:Nat):Keeps [p] w w':=h.weaken (by simp)

theorem one_no1{s:ByteArray}{p:Nat}{st:PSt}{w:World}(h:PP s p st w){t:Tok}(ht:nextF s st.pos false=some t)(sg:ByteArray)(hsg:sg.size≤1000000)(h9:¬t.kind=9):
    Calls Tryz.prog 158 #[.pointer (some ⟨p,0,none⟩),.string sg] w fun r w'=>r= .returned (.tuple #[.string ⟨#[]⟩,.complex .f64 0 0,.bool false])∧Keeps [] w w':=by
  have H:=Lib.hid h;have HT:=Lib.hid ht
  clear h ht
  obtain ⟨kd,tx,nm,fr,te⟩:=t
  simp only at h9
  have n9:(kd==9)=false:=beq_false_of_ne h9
  have n9':(kd !=9)=true:=by simp [h9]
  have c1:=cell_of_heap H.out.row 1
  simp at c1
  have hlt:=h_lt H.out.row
  go_enter Tryz.func158,Tryz.ntmps158
  go_wp2_with fail
  refine (ok_any H.out).mono ?_
  rintro r w' ⟨rfl,hw'⟩
  rw [hw']
  clear hw'
  go_wp2_with fail
  refine (peek_any H.out HT.out H.out.le).mono ?_
  rintro r w1 ⟨rfl,hk1⟩
  have HP1:=Lib.hid (H.out.keep hk1)
  have HK1:=Lib.hid hk1
  clear hk1 c1
  go_wp2_with ((with_reducible show wpList _ _ _ (Oper.mk none (.store 109 _ _) _ _ _ _::_) _ _);refine stT 109 w1.heap.size 0 _ (h_new _ _) rfl (.agg #[.int .i64 kd,.string tx,.float .f64 nm,.int .i64 fr,.int .i64 te]) rfl (by kernel_rfl) (by simp [Value.cells]) (by simp [Value.cells,Value.oneCell']) ?_)
  intro w2 hs2
  have x0:=cell_of_heap hs2.row 0
  have x1:=cell_of_heap hs2.row 1
  have x2:=cell_of_heap hs2.row 2
  have x3:=cell_of_heap hs2.row 3
  have x4:=cell_of_heap hs2.row 4
  simp at x0 x1 x2 x3 x4
  have hsz2:=HK1.out.size
  have HTR2:=Lib.hid hs2.row
  have hst2:Keeps [] w1 w2:=(Keeps.alloc [] w1 (tokC 0 ⟨#[]⟩ 0 0 0)).trans hs2.keeps (by simp)
  have HST2:=Lib.hid hst2
  have HK2:=Lib.hid (HK1.out.trans hst2 (by simp))
  clear hs2 hst2
  have HP2:=Lib.hid (HP1.out.keep HST2.out)

  go_wp2_with fail
  exact bodyPost_ret (v:= .tuple #[.string ⟨#[]⟩,.complex .f64 0 0,.bool false]) (by simp [results,Tryz.results158,go_sem]) rfl ⟨rfl,HK2.out⟩

theorem one_no2{s:ByteArray}{p:Nat}{st:PSt}{w:World}(h:PP s p st w){t:Tok}(ht:nextF s st.pos false=some t)(sg:ByteArray)(hsg:sg.size≤1000000)(h9:t.kind=9)(ha:among sg t.text=false):
    Calls Tryz.prog 158 #[.pointer (some ⟨p,0,none⟩),.string sg] w fun r w'=>r= .returned (.tuple #[.string ⟨#[]⟩,.complex .f64 0 0,.bool false])∧Keeps [] w w':=by
  have H:=Lib.hid h;have HT:=Lib.hid ht
  clear h ht
  obtain ⟨kd,tx,nm,fr,te⟩:=t
  simp only at h9 ha
  subst h9
  have hA:=fun W=>among_any sg tx hsg W
  rw [ha] at hA
  have HA:=Lib.hid hA
  clear hA ha
  have c1:=cell_of_heap H.out.row 1
  simp at c1
  have hlt:=h_lt H.out.row
  go_enter Tryz.func158,Tryz.ntmps158
  go_wp2_with fail
  refine (ok_any H.out).mono ?_
  rintro r w' ⟨rfl,hw'⟩
  rw [hw']
  clear hw'
  go_wp2_with fail
  refine (peek_any H.out HT.out H.out.le).mono ?_
  rintro r w1 ⟨rfl,hk1⟩
  have HP1:=Lib.hid (H.out.keep hk1)
  have HK1:=Lib.hid hk1
  clear hk1 c1
  go_wp2_with ((with_reducible show wpList _ _ _ (Oper.mk none (.store 109 _ _) _ _ _ _::_) _ _);refine stT 109 w1.heap.size 0 _ (h_new _ _) rfl (.agg #[.int .i64 9,.string tx,.float .f64 nm,.int .i64 fr,.int .i64 te]) rfl (by kernel_rfl) (by simp [Value.cells]) (by simp [Value.cells,Value.oneCell']) ?_)
  intro w2 hs2
  have x0:=cell_of_heap hs2.row 0
  have x1:=cell_of_heap hs2.row 1
  have x2:=cell_of_heap hs2.row 2
  have x3:=cell_of_heap hs2.row 3
  have x4:=cell_of_heap hs2.row 4
  simp at x0 x1 x2 x3 x4
  have hsz2:=HK1.out.size
  have HTR2:=Lib.hid hs2.row
  have hst2:Keeps [] w1 w2:=(Keeps.alloc [] w1 (tokC 0 ⟨#[]⟩ 0 0 0)).trans hs2.keeps (by simp)
  have HST2:=Lib.hid hst2
  have HK2:=Lib.hid (HK1.out.trans hst2 (by simp))
  clear hs2 hst2
  have HP2:=Lib.hid (HP1.out.keep HST2.out)

  go_wp2_with fail
  refine (HA.out _).mono ?_
  rintro r w' ⟨rfl,hw'⟩
  rw [hw']
  clear hw'
  go_wp2_with fail
  exact bodyPost_ret (v:= .tuple #[.string ⟨#[]⟩,.complex .f64 0 0,.bool false]) (by simp [results,Tryz.results158,go_sem]) rfl ⟨rfl,HK2.out⟩

theorem one_yes{s:ByteArray}{p:Nat}{st:PSt}{w:World}(h:PP s p st w){t:Tok}(ht:nextF s st.pos false=some t)(sg:ByteArray)(hsg:sg.size≤1000000)(h9:t.kind=9)(ha:among sg t.text=true):
    Calls Tryz.prog 158 #[.pointer (some ⟨p,0,none⟩),.string sg] w fun r w'=>r= .returned (.tuple #[.string t.text,.complex .f64 (placeOf s t.fr).1 (placeOf s t.fr).2,.bool true])∧PP s p ⟨t.to,st.opn,st.ng⟩ w'∧Keeps [p] w w':=by
  obtain ⟨le1,le2,le3⟩:=nextF_le ht h.le
  have H:=Lib.hid h;have HT:=Lib.hid ht
  clear h ht
  obtain ⟨kd,tx,nm,fr,te⟩:=t
  simp only at h9 ha le1 le2 le3
  subst h9
  have hA:=fun W=>among_any sg tx hsg W
  rw [ha] at hA
  have HA:=Lib.hid hA
  clear hA ha
  have c1:=cell_of_heap H.out.row 1
  simp at c1
  have hlt:=h_lt H.out.row
  go_enter Tryz.func158,Tryz.ntmps158
  go_wp2_with fail
  refine (ok_any H.out).mono ?_
  rintro r w' ⟨rfl,hw'⟩
  rw [hw']
  clear hw'
  go_wp2_with fail
  refine (peek_any H.out HT.out H.out.le).mono ?_
  rintro r w1 ⟨rfl,hk1⟩
  have HP1:=Lib.hid (H.out.keep hk1)
  have HK1:=Lib.hid hk1
  clear hk1 c1
  go_wp2_with ((with_reducible show wpList _ _ _ (Oper.mk none (.store 109 _ _) _ _ _ _::_) _ _);refine stT 109 w1.heap.size 0 _ (h_new _ _) rfl (.agg #[.int .i64 9,.string tx,.float .f64 nm,.int .i64 fr,.int .i64 te]) rfl (by kernel_rfl) (by simp [Value.cells]) (by simp [Value.cells,Value.oneCell']) ?_)
  intro w2 hs2
  have x0:=cell_of_heap hs2.row 0
  have x1:=cell_of_heap hs2.row 1
  have x2:=cell_of_heap hs2.row 2
  have x3:=cell_of_heap hs2.row 3
  have x4:=cell_of_heap hs2.row 4
  simp at x0 x1 x2 x3 x4
  have hsz2:=HK1.out.size
  have HTR2:=Lib.hid hs2.row
  have hst2:Keeps [] w1 w2:=(Keeps.alloc [] w1 (tokC 0 ⟨#[]⟩ 0 0 0)).trans hs2.keeps (by simp)
  have HST2:=Lib.hid hst2
  have HK2:=Lib.hid (HK1.out.trans hst2 (by simp))
  clear hs2 hst2
  have HP2:=Lib.hid (HP1.out.keep HST2.out)

  have n1:p≠w1.heap.size:=by omega
  have n2:w1.heap.size≠p:=by omega
  have c1:=cell_of_heap HP2.out.row 1
  have f1:=frozen_of_heap HP2.out.row 1
  simp at c1
  have hl3:p<w2.heap.size:=h_lt HP2.out.row
  go_wp2_with fail
  refine (HA.out _).mono ?_
  rintro r w' ⟨rfl,hw'⟩
  rw [hw']
  clear hw'
  go_upto_region 7 with fail
  obtain ⟨hp3,hk3⟩:=HP2.out.put le2
  have x0':=x0;have hr3:=hk3.at HTR2.out (by simp;omega)
  have z0:=cell_of_heap hr3 0
  have z1:=cell_of_heap hr3 1
  have z2:=cell_of_heap hr3 2
  have z3:=cell_of_heap hr3 3
  have z4:=cell_of_heap hr3 4
  simp at z0 z1 z2 z3 z4
  have HK3:=Lib.hid ((HK2.out.nil p).trans hk3 (by simp))
  have HP3:=Lib.hid hp3
  clear hp3 hk3 x0 x1 x2 x3 x4 x0' hr3 c1 f1
  generalize w2.setCell ⟨p,1,none⟩ (.int .i64 te)=w3 at*
  have hpl:∀W,Keeps [] w3 W→Calls Tryz.prog 152 #[.pointer (some ⟨p,0,none⟩),tokV ⟨9,tx,nm,fr,te⟩] W fun r w'=>∃v,r= .returned v∧(v= .complex .f64 (placeOf s fr).1 (placeOf s fr).2∧Keeps [] W w'):=fun W hk=>(place_tok (HP3.out.keep hk) ⟨9,tx,nm,fr,te⟩ (by simp only;omega)).mono fun r w' ⟨hr,hk⟩=>⟨_,hr,rfl,hk⟩
  have HPL:=Lib.hid hpl
  clear hpl
  have hb3:w1.heap.size<w3.heap.size:=World.block_lt_of_cell? w3 ⟨w1.heap.size,0,none⟩ z0
  generalize hpc:placeOf s fr=pc at*
  obtain ⟨p1,p2⟩:=pc
  go_region_law ((refine step_call (f:=152) (vals:= #[.pointer (some ⟨p,0,none⟩),tokV ⟨9,tx,nm,fr,te⟩]) rfl _ rfl (by kernel_rfl) (HPL.out _ (by first|exact Keeps.drew [] w3|exact Keeps.refl [] w3)) ?_;rintro v w4 ⟨rfl,hk4⟩;have u0:=hk4.cell (by simpa using hb3) z0;have u1:=hk4.cell (by simpa using hb3) z1;have hkw:Keeps [] w3 w4:=(by first|exact (Keeps.drew [] w3).trans hk4 (by simp)|exact hk4)))
  all_goals
    have hfin:PP s p ⟨te,st.opn,st.ng⟩ w4∧Keeps [p] w w4:=⟨HP3.out.keep hkw,HK3.out.trans hkw (by simp)⟩
    have HF:=Lib.hid hfin
    clear hfin hkw hk4 u0 u1
    go_wp2_with fail
    exact bodyPost_ret (v:= .tuple #[.string tx,.complex .f64 p1 p2,.bool true]) (by simp [results,Tryz.results158,go_sem]) rfl ⟨rfl,HF.out.1,HF.out.2⟩
end Go.Proofs.YteafcepaolofpaaGreatDoor
end
section
/- here, walked, where nothing is wrong. Made by a program (mkR.py). -/
namespace Go.Proofs.YteafcepaolofpaaGreatDoor
open Go.RowKit

theorem here_any{s:ByteArray}{p:Nat}{st:PSt}{w:World}(h:PP s p st w){op:Bool}{t:Tok}(ht:nextF s st.pos op=some t):
    Calls Tryz.prog 124 #[.pointer (some ⟨p,0,none⟩),.bool op] w fun r w'=>r= .returned (.tuple #[tokV t,.complex .f64 (placeOf s t.fr).1 (placeOf s t.fr).2])∧Keeps [] w w':=by
  have c0:=cell_of_heap h.row 0
  have c1:=cell_of_heap h.row 1
  simp at c0 c1
  have hlt:=h_lt h.row
  have hN:∀W,Keeps [] w W→Calls Tryz.prog 77 #[.string s,.int .i64 st.pos,.bool op] W fun r w'=>∃v,r= .returned v∧(v= .tuple #[tokV t,.int .i64 0]∧Keeps [] W w'):=fun W hk=>(next_any (h.gl.keep hk (by simp)) ht h.le (by have:=h.size;omega)).mono fun r w' ⟨hr,hk⟩=>⟨_,hr,rfl,hk⟩
  obtain ⟨le1,le2,le3⟩:=nextF_le ht h.le
  have HN:=Lib.hid hN;have H:=Lib.hid h
  clear h hN ht
  obtain ⟨kd,tx,nm,fr,te⟩:=t
  obtain ⟨pos,opn,ng⟩:=st
  simp only at le1 le2 le3
  go_enter Tryz.func124,Tryz.ntmps124
  go_upto_region 1 with fail
  go_cut [6,7] (fun s5 s6 wx=>∃b,s5= .pointer (some ⟨b,0,none⟩)∧s6= .int .i64 0∧w.heap.size<b∧wx.heap[b]? =some (tokC kd tx nm fr te)∧wx.heap[w.heap.size]? =some (tokC 0 ⟨#[]⟩ 0 0 0)∧Keeps [] w wx)
  case first =>
    go_region_law ((refine step_call (f:=77) (vals:= #[.string s,.int .i64 pos,.bool op]) rfl _ rfl (by kernel_rfl) (HN.out _ (by first|exact keeps_drew (keeps_new (Keeps.refl [] w) _)|exact keeps_drew (keeps_new (keeps_new (Keeps.refl [] w) _) _))) ?_;rintro v w1 ⟨rfl,hk1⟩;have hq1:=hk1.at (show _=some (tokC 0 ⟨#[]⟩ 0 0 0) from (by first|exact h_new w _|exact h_alloc (h_new w _))) (by simp);have hkw:Keeps [] w w1:=(by first|exact (keeps_drew (keeps_new (Keeps.refl [] w) _)).trans hk1 (by simp)|exact (keeps_drew (keeps_new (keeps_new (Keeps.refl [] w) _) _)).trans hk1 (by simp));have hsz1:=hk1.size;simp at hsz1;have q0:=cell_of_heap hq1 0;have q1:=cell_of_heap hq1 1;have q2:=cell_of_heap hq1 2;have q3:=cell_of_heap hq1 3;have q4:=cell_of_heap hq1 4;have qf0:=frozen_of_heap hq1 0;have qf1:=frozen_of_heap hq1 1;have qf2:=frozen_of_heap hq1 2;have qf3:=frozen_of_heap hq1 3;have qf4:=frozen_of_heap hq1 4;simp at q0 q1 q2 q3 q4;try (have hb1:=hk1.at (h_new (w.alloc (tokC 0 ⟨#[]⟩ 0 0 0)) (tokC 0 ⟨#[]⟩ 0 0 0)) (by simp);rw [show (w.alloc (tokC 0 ⟨#[]⟩ 0 0 0)).heap.size=w.heap.size+1 from by simp] at hb1;have b0:=cell_of_heap hb1 0;have b1:=cell_of_heap hb1 1;have b2:=cell_of_heap hb1 2;have b3:=cell_of_heap hb1 3;have b4:=cell_of_heap hb1 4;have bf0:=frozen_of_heap hb1 0;have bf1:=frozen_of_heap hb1 1;have bf2:=frozen_of_heap hb1 2;have bf3:=frozen_of_heap hb1 3;have bf4:=frozen_of_heap hb1 4;simp at b0 b1 b2 b3 b4)))
    all_goals
      go_wp2_with fail
      go_meet
      case rel=>
        refine ⟨_,rfl,rfl, ?_⟩
        first
          | (have t:=tok5 hb1 kd tx nm fr te
             refine ⟨Nat.lt_succ_self _,t.1, ?_, ?_⟩
             · exact t.2.1 _ _ (Nat.ne_of_lt (Nat.lt_succ_self _)) hq1
             · exact t.2.2 w hkw (Nat.le_succ _))
          | (refine ⟨hsz1,h_new w1 (tokC kd tx nm fr te), ?_, ?_⟩
             · exact h_alloc hq1
             · exact keeps_new hkw _)
  case rest=>
    obtain ⟨b,rfl,rfl,hb,hr,hq,hk⟩:=hcut
    have x0:=cell_of_heap hr 0
    have x1:=cell_of_heap hr 1
    have x2:=cell_of_heap hr 2
    have x3:=cell_of_heap hr 3
    have x4:=cell_of_heap hr 4
    simp at x0 x1 x2 x3 x4
    have HR:=Lib.hid hr;have HQ:=Lib.hid hq;have HK:=Lib.hid hk
    have hbl:b<wc.heap.size:=h_lt hr
    have hpl:∀W,Keeps [] wc W→Calls Tryz.prog 152 #[.pointer (some ⟨p,0,none⟩),tokV ⟨kd,tx,nm,fr,te⟩] W fun r w'=>∃v,r= .returned v∧(v= .complex .f64 (placeOf s fr).1 (placeOf s fr).2∧Keeps [] W w'):=fun W hk'=>(place_tok ((H.out.keep hk).keep hk') ⟨kd,tx,nm,fr,te⟩ (by simp only;omega)).mono fun r w' ⟨hr,hk⟩=>⟨_,hr,rfl,hk⟩
    have HPL:=Lib.hid hpl
    clear hr hq hk hpl
    generalize hpc:placeOf s fr=pc at*
    obtain ⟨p1,p2⟩:=pc
    go_upto_region 2 with fail
    go_region_law ((refine step_call (f:=152) (vals:= #[.pointer (some ⟨p,0,none⟩),tokV ⟨kd,tx,nm,fr,te⟩]) rfl _ rfl (by kernel_rfl) (HPL.out _ (by first|exact Keeps.drew [] wc|exact Keeps.refl [] wc)) ?_;rintro v w4 ⟨rfl,hk4⟩;have hkw:Keeps [] wc w4:=(by first|exact (Keeps.drew [] wc).trans hk4 (by simp)|exact hk4);have hr4:=hkw.at HR.out (by simp);have hq4:=hkw.at HQ.out (by simp);have u0:=cell_of_heap hr4 0;have u1:=cell_of_heap hr4 1;have u2:=cell_of_heap hr4 2;have u3:=cell_of_heap hr4 3;have u4:=cell_of_heap hr4 4;have v0:=cell_of_heap hq4 0;have v1:=cell_of_heap hq4 1;have v2:=cell_of_heap hq4 2;have v3:=cell_of_heap hq4 3;have v4:=cell_of_heap hq4 4;have vf0:=frozen_of_heap hq4 0;have vf1:=frozen_of_heap hq4 1;have vf2:=frozen_of_heap hq4 2;have vf3:=frozen_of_heap hq4 3;have vf4:=frozen_of_heap hq4 4;simp at u0 u1 u2 u3 u4 v0 v1 v2 v3 v4;have hl4:w.heap.size<w4.heap.size:=h_lt hq4))
    all_goals
      have t:=tok5 hq4 kd tx nm fr te
      have hkf:=t.2.2 w (HK.out.trans hkw (by simp)) (Nat.le_refl _)
      have HF:=Lib.hid hkf
      clear hkf t hkw hr4 hq4 u0 u1 u2 u3 u4 hk4
      go_wp2_with fail
      exact bodyPost_ret (v:= .tuple #[.agg #[.int .i64 kd,.string tx,.float .f64 nm,.int .i64 fr,.int .i64 te],.complex .f64 p1 p2]) (by simp [results,Tryz.results124,go_sem,v0,v1,v2,v3,v4]) rfl ⟨rfl,HF.out⟩
end Go.Proofs.YteafcepaolofpaaGreatDoor
end
section
/- Nodes in memory. -/
namespace Go.Proofs.YteafcepaolofpaaGreatDoor
open Go.RowKit

mutual
/-- The value v is the node n; what it lies in are blocks of S. -/
inductive NodeR (w:World) (S:Nat→Prop):Node→Value→Prop
  |mk {kind:Int} {name:ByteArray} {num:Nat} {kids:List Node} {re im:Nat} {kv:Value} (h:KidsR w S kids kv):
      NodeR w S (.mk kind name num kids re im) (.agg #[.int .i64 kind,.string name,.float .f64 num,kv,.complex .f64 re im])
/-- The value v is a slice of these nodes. -/
inductive KidsR (w:World) (S:Nat→Prop):List Node→Value→Prop
  |nil {a:Option Addr} {cap:Nat}:KidsR w S [] (.slice a 0 cap)
  |some {n:Node} {ns:List Node} {g o cap:Nat} (hS:S g) (hg:g<w.heap.size) (h:RowR w S g o (n::ns)):KidsR w S (n::ns) (.slice (some ⟨g,o,none⟩) (ns.length+1) cap)
/-- These nodes lie in block g from o on. -/
inductive RowR (w:World) (S:Nat→Prop):Nat→Nat→List Node→Prop
  |nil {g o:Nat}:RowR w S g o []
  |cons {g o:Nat} {n:Node} {ns:List Node} {c0 c1 c2 c3 c4:Value} (hn:NodeR w S n (.agg #[c0,c1,c2,c3,c4])) (h0:w.cell? ⟨g,o,none⟩=some c0) (h1:w.cell? ⟨g,o+1,none⟩=some c1)
      (h2:w.cell? ⟨g,o+2,none⟩=some c2) (h3:w.cell? ⟨g,o+3,none⟩=some c3) (h4:w.cell? ⟨g,o+4,none⟩=some c4) (hr:RowR w S g (o+5) ns):RowR w S g o (n::ns)
end

mutual
/-- What nodes lie in stays; and it may be said of more blocks. -/
theorem NodeR.keep{w w':World}{S T:Nat→Prop}{fp:List Nat}(hk:Keeps fp w w')(hf:∀x∈fp,¬S x)(hT:∀x,S x→T x){n:Node}{v:Value}(h:NodeR w S n v):NodeR w' T n v:=by
  cases h with
  |mk h=>exact .mk (KidsR.keep hk hf hT h)
theorem KidsR.keep{w w':World}{S T:Nat→Prop}{fp:List Nat}(hk:Keeps fp w w')(hf:∀x∈fp,¬S x)(hT:∀x,S x→T x){ns:List Node}{v:Value}(h:KidsR w S ns v):KidsR w' T ns v:=by
  cases h with
  |nil=>exact .nil
  |some hS hg h=>exact .some (hT _ hS) (Nat.lt_of_lt_of_le hg hk.size) (RowR.keep hk hf hT hS hg h)
theorem RowR.keep{w w':World}{S T:Nat→Prop}{fp:List Nat}(hk:Keeps fp w w')(hf:∀x∈fp,¬S x)(hT:∀x,S x→T x){g o:Nat}(hS:S g)(hg:g<w.heap.size){ns:List Node}(h:RowR w S g o ns):RowR w' T g o ns:=by
  cases h with
  |nil=>exact .nil
  | cons hn h0 h1 h2 h3 h4 hr=>
    have hc:∀i v,w.cell? ⟨g,i,none⟩=some v→w'.cell? ⟨g,i,none⟩=some v:=fun i v h=>by
      rw [World.cell?_of_block (w:=w) (a:=⟨g,i,none⟩) (hk.block g hg fun hm=>hf g hm hS)];exact h
    exact .cons (NodeR.keep hk hf hT hn) (hc _ _ h0) (hc _ _ h1) (hc _ _ h2) (hc _ _ h3) (hc _ _ h4) (RowR.keep hk hf hT hS hg hr)
end
theorem NodeR.keep0{w w':World}{S:Nat→Prop}(hk:Keeps [] w w'){n:Node}{v:Value}(h:NodeR w S n v):NodeR w' S n v:=h.keep hk (by simp) fun _ h=>h

theorem KidsR.slice{w:World}{S:Nat→Prop}{ns:List Node}{v:Value}(h:KidsR w S ns v):∃a l cap,v= .slice a l cap:=by
  cases h with
  |nil=>exact ⟨_,_,_,rfl⟩
  |some hS hg h=>exact ⟨_,_,_,rfl⟩
theorem NodeR.shape{w:World}{S:Nat→Prop}{n:Node}{v:Value}(h:NodeR w S n v):∃name num a l cap re im,v= .agg #[.int .i64 n.kind,.string name,.float .f64 num,.slice a l cap,.complex .f64 re im]∧re=n.re∧im=n.im:=by
  cases h with
  | mk h=>
    obtain ⟨a,l,cap,rfl⟩:=h.slice
    exact ⟨_,_,_,_,_,_,_,rfl,rfl,rfl⟩
set_option maxHeartbeats 1000000 in
theorem lvalue_any{w:World}{S:Nat→Prop}{n:Node}{v:Value}(h:NodeR w S n v):Calls Tryz.prog 157 #[v] w fun r w'=>r= .returned (.bool (lval n))∧Keeps [] w w':=by
  obtain ⟨name,num,a,l,cap,re,im,rfl,_,_⟩:=h.shape
  have hl:lval n=(n.kind==4||n.kind==5||n.kind==6):=rfl
  rw [hl]
  generalize n.kind=k at*
  clear hl h
  by_cases h4:k=4
  · subst h4
    go_enter Tryz.func157,Tryz.ntmps157
    go_wp2_with fail
    go_ret
    exact ⟨rfl,Keeps.alloc [] w _⟩
  · have n4:(k==4)=false:=beq_false_of_ne h4
    by_cases h5:k=5
    · subst h5
      go_enter Tryz.func157,Tryz.ntmps157
      go_wp2_with fail
      go_ret
      exact ⟨rfl,Keeps.alloc [] w _⟩
    · have n5:(k==5)=false:=beq_false_of_ne h5
      rw [n4,n5]
      clear h4 h5
      go_enter Tryz.func157,Tryz.ntmps157
      go_wp2_with fail
      go_ret
      exact ⟨rfl,Keeps.alloc [] w _⟩
end Go.Proofs.YteafcepaolofpaaGreatDoor
end
section
/- The levels of expressions that hand on, walked. Made by a program (mkL.py). -/
namespace Go.Proofs.YteafcepaolofpaaGreatDoor
open Go.RowKit

abbrev nodC(kd:Int)(tx:ByteArray)(nm:Nat)(kv:Value)(re im:Nat):Obj:= .cells #[.int .i64 kd,.string tx,.float .f64 nm,kv,.complex .f64 re im] 58

/-- A node laid cell by cell. -/
theorem nod5(W:World)(b:Nat)(kd:Int)(tx:ByteArray)(nm:Nat)(kv:Value)(re im:Nat):Keeps [b] W (((((W.setCell ⟨b,0,none⟩ (.int .i64 kd)).setCell ⟨b,1,none⟩ (.string tx)).setCell ⟨b,2,none⟩ (.float .f64 nm)).setCell ⟨b,3,none⟩ kv).setCell ⟨b,4,none⟩ (.complex .f64 re im)):=
  ((((Keeps.setCell [b] W _ _ (by simp)).trans (Keeps.setCell [b] _ _ _ (by simp)) (by simp)).trans (Keeps.setCell [b] _ _ _ (by simp)) (by simp)).trans (Keeps.setCell [b] _ _ _ (by simp)) (by simp)).trans (Keeps.setCell [b] _ _ _ (by simp)) (by simp)

/-- What a function of the parser does that hands back the node n. -/
def Hands(s:ByteArray)(p:Nat)(st st':PSt)(n:Node)(f:FuncId):Prop:=
  ∀w,PP s p st w→Calls Tryz.prog f #[.pointer (some ⟨p,0,none⟩)] w fun r w'=>∃v,r= .returned v∧NodeR w' (fun g=>w.heap.size≤g) n v∧PP s p st' w'∧Keeps [p] w w'

theorem one_none{s:ByteArray}{p:Nat}{st:PSt}{w:World}(h:PP s p st w){sg:ByteArray}(hx:noneF s st sg=some ())(hsg:sg.size≤1000000):
    Calls Tryz.prog 158 #[.pointer (some ⟨p,0,none⟩),.string sg] w fun r w'=>r= .returned (.tuple #[.string ⟨#[]⟩,.complex .f64 0 0,.bool false])∧Keeps [] w w':=by
  unfold noneF oneF at hx
  cases ht:nextF s st.pos false with
  |none=>rw [ht] at hx;simp at hx
  | some t=>
    rw [ht] at hx
    simp only [Option.bind_eq_bind,Option.bind_some] at hx
    by_cases h9:t.kind=9
    · cases ha:among sg t.text
      · exact one_no2 h ht sg hsg h9 ha
      · rw [show (t.kind==9)=true from by simp [h9],ha] at hx
        simp at hx
    · exact one_no1 h ht sg hsg h9

theorem power_lv{s:ByteArray}{p:Nat}{st st':PSt}{n:Node}(hsub:Hands s p st st' n 264)(hno:noneF s st' ⟨#[94]⟩=some ()):Hands s p st st' n 263:=by
  intro w h
  have hlt:=h_lt h.row
  have H:=Lib.hid h;have HS:=Lib.hid hsub;have HN:=Lib.hid hno
  clear h hsub hno
  go_enter Tryz.func263,Tryz.ntmps263
  go_wp2_with fail
  refine (HS.out _ (H.out.keep (Keeps.alloc [] w (nodC 0 ⟨#[]⟩ 0 (.slice none 0 0) 0 0)))).mono ?_
  rintro r w1 ⟨v,rfl,hn',hp1,hk1⟩
  have hn:NodeR w1 (fun g=>w.heap.size<g) n v:=hn'.keep (Keeps.refl [] w1) (by simp) (fun x hx=>by have h2:=hx;simp at h2;omega)
  clear hn'
  have hq1:=hk1.at (h_new w (nodC 0 ⟨#[]⟩ 0 (.slice none 0 0) 0 0)) (by simp;omega)
  have hkw:Keeps [p] w w1:=(Keeps.alloc [p] w _).trans hk1 (fun _ h=> .inl h)
  have hsz:w.heap.size<w1.heap.size:=by have:=hk1.size;simp at this;omega
  have h14:=hp1.p
  obtain ⟨tx,nm,a,l,cap,re,im,rfl,-,-⟩:=hn.shape
  generalize hkd:n.kind=kd at*
  have hka:=Keeps.alloc [] w1 (nodC kd tx nm (.slice a l cap) re im)
  have HN1:=Lib.hid (hn.keep0 hka);have HP1:=Lib.hid (hp1.keep hka);have HK1:=Lib.hid (hkw.trans hka (by simp))
  have HQ1:=Lib.hid (hka.at hq1 (by simp));have HB1:=Lib.hid (h_new w1 (nodC kd tx nm (.slice a l cap) re im))
  clear hn hp1 hkw hk1 hq1 hka
  go_wp2_with fail
  generalize w1.alloc (nodC kd tx nm (.slice a l cap) re im)=w2 at*
  refine (one_none HP1.out HN.out (by decide)).mono ?_
  rintro r w3 ⟨rfl,hk3⟩
  have hb3:=hk3.at HB1.out (by simp)
  have hq3:=hk3.at HQ1.out (by simp)
  have HN3:=Lib.hid (HN1.out.keep0 hk3);have HP3:=Lib.hid (HP1.out.keep hk3);have HK3:=Lib.hid (HK1.out.trans hk3 (by simp))
  have hl3:w.heap.size<w3.heap.size:=h_lt hq3
  have hl4:w1.heap.size<w3.heap.size:=h_lt hb3
  have x0:=cell_of_heap hb3 0
  have x1:=cell_of_heap hb3 1
  have x2:=cell_of_heap hb3 2
  have x3:=cell_of_heap hb3 3
  have x4:=cell_of_heap hb3 4
  have q0:=cell_of_heap hq3 0
  have q1:=cell_of_heap hq3 1
  have q2:=cell_of_heap hq3 2
  have q3:=cell_of_heap hq3 3
  have q4:=cell_of_heap hq3 4
  have qf0:=frozen_of_heap hq3 0
  have qf1:=frozen_of_heap hq3 1
  have qf2:=frozen_of_heap hq3 2
  have qf3:=frozen_of_heap hq3 3
  have qf4:=frozen_of_heap hq3 4
  simp at x0 x1 x2 x3 x4 q0 q1 q2 q3 q4
  have n5:w.heap.size≠w1.heap.size:=Nat.ne_of_lt hsz
  have n6:w1.heap.size≠w.heap.size:=Nat.ne_of_gt hsz
  clear hk3 hb3 hq3
  go_wp2_with fail
  have t5:=nod5 w3 w.heap.size kd tx nm (.slice a l cap) re im
  refine bodyPost_ret (v:= .agg #[.int .i64 kd,.string tx,.float .f64 nm,.slice a l cap,.complex .f64 re im]) (by simp [results,Tryz.results263,go_sem,q0,q1,q2,q3,q4]) rfl ⟨_,rfl, ?_, ?_, ?_⟩
  · exact HN3.out.keep t5 (by simp) (fun x hx=>Nat.le_of_lt hx)
  · exact HP3.out.keepN t5 (by simp;omega) (by simp;omega)
  · exact HK3.out.trans t5 (by simp)

theorem cond_lv{s:ByteArray}{p:Nat}{st st':PSt}{n:Node}(hsub:Hands s p st st' n 188)(hno:noneF s st' ⟨#[63]⟩=some ()):Hands s p st st' n 156:=by
  intro w h
  have hlt:=h_lt h.row
  have H:=Lib.hid h;have HS:=Lib.hid hsub;have HN:=Lib.hid hno
  clear h hsub hno
  go_enter Tryz.func156,Tryz.ntmps156
  go_wp2_with fail
  refine (HS.out _ (H.out.keep (Keeps.alloc [] w (nodC 0 ⟨#[]⟩ 0 (.slice none 0 0) 0 0)))).mono ?_
  rintro r w1 ⟨v,rfl,hn',hp1,hk1⟩
  have hn:NodeR w1 (fun g=>w.heap.size<g) n v:=hn'.keep (Keeps.refl [] w1) (by simp) (fun x hx=>by have h2:=hx;simp at h2;omega)
  clear hn'
  have hq1:=hk1.at (h_new w (nodC 0 ⟨#[]⟩ 0 (.slice none 0 0) 0 0)) (by simp;omega)
  have hkw:Keeps [p] w w1:=(Keeps.alloc [p] w _).trans hk1 (fun _ h=> .inl h)
  have hsz:w.heap.size<w1.heap.size:=by have:=hk1.size;simp at this;omega
  have h14:=hp1.p
  obtain ⟨tx,nm,a,l,cap,re,im,rfl,-,-⟩:=hn.shape
  generalize hkd:n.kind=kd at*
  have hka:=Keeps.alloc [] w1 (nodC kd tx nm (.slice a l cap) re im)
  have HN1:=Lib.hid (hn.keep0 hka);have HP1:=Lib.hid (hp1.keep hka);have HK1:=Lib.hid (hkw.trans hka (by simp))
  have HQ1:=Lib.hid (hka.at hq1 (by simp));have HB1:=Lib.hid (h_new w1 (nodC kd tx nm (.slice a l cap) re im))
  clear hn hp1 hkw hk1 hq1 hka
  go_wp2_with fail
  generalize w1.alloc (nodC kd tx nm (.slice a l cap) re im)=w2 at*
  refine (one_none HP1.out HN.out (by decide)).mono ?_
  rintro r w3 ⟨rfl,hk3⟩
  have hb3:=hk3.at HB1.out (by simp)
  have hq3:=hk3.at HQ1.out (by simp)
  have HN3:=Lib.hid (HN1.out.keep0 hk3);have HP3:=Lib.hid (HP1.out.keep hk3);have HK3:=Lib.hid (HK1.out.trans hk3 (by simp))
  have hl3:w.heap.size<w3.heap.size:=h_lt hq3
  have hl4:w1.heap.size<w3.heap.size:=h_lt hb3
  have x0:=cell_of_heap hb3 0
  have x1:=cell_of_heap hb3 1
  have x2:=cell_of_heap hb3 2
  have x3:=cell_of_heap hb3 3
  have x4:=cell_of_heap hb3 4
  have q0:=cell_of_heap hq3 0
  have q1:=cell_of_heap hq3 1
  have q2:=cell_of_heap hq3 2
  have q3:=cell_of_heap hq3 3
  have q4:=cell_of_heap hq3 4
  have qf0:=frozen_of_heap hq3 0
  have qf1:=frozen_of_heap hq3 1
  have qf2:=frozen_of_heap hq3 2
  have qf3:=frozen_of_heap hq3 3
  have qf4:=frozen_of_heap hq3 4
  simp at x0 x1 x2 x3 x4 q0 q1 q2 q3 q4
  have n5:w.heap.size≠w1.heap.size:=Nat.ne_of_lt hsz
  have n6:w1.heap.size≠w.heap.size:=Nat.ne_of_gt hsz
  clear hk3 hb3 hq3
  go_wp2_with fail
  have t5:=nod5 w3 w.heap.size kd tx nm (.slice a l cap) re im
  refine bodyPost_ret (v:= .agg #[.int .i64 kd,.string tx,.float .f64 nm,.slice a l cap,.complex .f64 re im]) (by simp [results,Tryz.results156,go_sem,q0,q1,q2,q3,q4]) rfl ⟨_,rfl, ?_, ?_, ?_⟩
  · exact HN3.out.keep t5 (by simp) (fun x hx=>Nat.le_of_lt hx)
  · exact HP3.out.keepN t5 (by simp;omega) (by simp;omega)
  · exact HK3.out.trans t5 (by simp)

theorem product_lv{s:ByteArray}{p:Nat}{st st':PSt}{n:Node}(hsub:Hands s p st st' n 262)(hno:noneF s st' ⟨#[42,32,47,32,37]⟩=some ()):Hands s p st st' n 261:=by
  intro w h
  have hlt:=h_lt h.row
  have H:=Lib.hid h;have HS:=Lib.hid hsub;have HN:=Lib.hid hno
  clear h hsub hno
  go_enter Tryz.func261,Tryz.ntmps261
  go_wp2_with fail
  refine (HS.out _ (H.out.keep (Keeps.alloc [] w (nodC 0 ⟨#[]⟩ 0 (.slice none 0 0) 0 0)))).mono ?_
  rintro r w1 ⟨v,rfl,hn',hp1,hk1⟩
  have hn:NodeR w1 (fun g=>w.heap.size<g) n v:=hn'.keep (Keeps.refl [] w1) (by simp) (fun x hx=>by have h2:=hx;simp at h2;omega)
  clear hn'
  have hq1:=hk1.at (h_new w (nodC 0 ⟨#[]⟩ 0 (.slice none 0 0) 0 0)) (by simp;omega)
  have hkw:Keeps [p] w w1:=(Keeps.alloc [p] w _).trans hk1 (fun _ h=> .inl h)
  have hsz:w.heap.size<w1.heap.size:=by have:=hk1.size;simp at this;omega
  have h14:=hp1.p
  obtain ⟨tx,nm,a,l,cap,re,im,rfl,-,-⟩:=hn.shape
  generalize hkd:n.kind=kd at*
  have hka:=Keeps.alloc [] w1 (nodC kd tx nm (.slice a l cap) re im)
  have HN1:=Lib.hid (hn.keep0 hka);have HP1:=Lib.hid (hp1.keep hka);have HK1:=Lib.hid (hkw.trans hka (by simp))
  have HQ1:=Lib.hid (hka.at hq1 (by simp));have HB1:=Lib.hid (h_new w1 (nodC kd tx nm (.slice a l cap) re im))
  clear hn hp1 hkw hk1 hq1 hka
  go_wp2_with fail
  refine wp_loop_rounds 1 ?_
  rw [rounds_succ]
  go_wp2_with fail
  generalize w1.alloc (nodC kd tx nm (.slice a l cap) re im)=w2 at*
  refine (one_none HP1.out HN.out (by decide)).mono ?_
  rintro r w3 ⟨rfl,hk3⟩
  have hb3:=hk3.at HB1.out (by simp)
  have hq3:=hk3.at HQ1.out (by simp)
  have HN3:=Lib.hid (HN1.out.keep0 hk3);have HP3:=Lib.hid (HP1.out.keep hk3);have HK3:=Lib.hid (HK1.out.trans hk3 (by simp))
  have hl3:w.heap.size<w3.heap.size:=h_lt hq3
  have hl4:w1.heap.size<w3.heap.size:=h_lt hb3
  have x0:=cell_of_heap hb3 0
  have x1:=cell_of_heap hb3 1
  have x2:=cell_of_heap hb3 2
  have x3:=cell_of_heap hb3 3
  have x4:=cell_of_heap hb3 4
  have q0:=cell_of_heap hq3 0
  have q1:=cell_of_heap hq3 1
  have q2:=cell_of_heap hq3 2
  have q3:=cell_of_heap hq3 3
  have q4:=cell_of_heap hq3 4
  have qf0:=frozen_of_heap hq3 0
  have qf1:=frozen_of_heap hq3 1
  have qf2:=frozen_of_heap hq3 2
  have qf3:=frozen_of_heap hq3 3
  have qf4:=frozen_of_heap hq3 4
  simp at x0 x1 x2 x3 x4 q0 q1 q2 q3 q4
  have n5:w.heap.size≠w1.heap.size:=Nat.ne_of_lt hsz
  have n6:w1.heap.size≠w.heap.size:=Nat.ne_of_gt hsz
  clear hk3 hb3 hq3
  go_wp2_with fail
  have t5:=nod5 w3 w.heap.size kd tx nm (.slice a l cap) re im
  refine bodyPost_ret (v:= .agg #[.int .i64 kd,.string tx,.float .f64 nm,.slice a l cap,.complex .f64 re im]) (by simp [results,Tryz.results261,go_sem,q0,q1,q2,q3,q4]) rfl ⟨_,rfl, ?_, ?_, ?_⟩
  · exact HN3.out.keep t5 (by simp) (fun x hx=>Nat.le_of_lt hx)
  · exact HP3.out.keepN t5 (by simp;omega) (by simp;omega)
  · exact HK3.out.trans t5 (by simp)

theorem or_lv{s:ByteArray}{p:Nat}{st st':PSt}{n:Node}(hsub:Hands s p st st' n 206)(hno:noneF s st' ⟨#[124,124]⟩=some ()):Hands s p st st' n 188:=by
  intro w h
  have hlt:=h_lt h.row
  have H:=Lib.hid h;have HS:=Lib.hid hsub;have HN:=Lib.hid hno
  clear h hsub hno
  go_enter Tryz.func188,Tryz.ntmps188
  go_wp2_with fail
  refine (HS.out _ (H.out.keep (Keeps.alloc [] w (nodC 0 ⟨#[]⟩ 0 (.slice none 0 0) 0 0)))).mono ?_
  rintro r w1 ⟨v,rfl,hn',hp1,hk1⟩
  have hn:NodeR w1 (fun g=>w.heap.size<g) n v:=hn'.keep (Keeps.refl [] w1) (by simp) (fun x hx=>by have h2:=hx;simp at h2;omega)
  clear hn'
  have hq1:=hk1.at (h_new w (nodC 0 ⟨#[]⟩ 0 (.slice none 0 0) 0 0)) (by simp;omega)
  have hkw:Keeps [p] w w1:=(Keeps.alloc [p] w _).trans hk1 (fun _ h=> .inl h)
  have hsz:w.heap.size<w1.heap.size:=by have:=hk1.size;simp at this;omega
  have h14:=hp1.p
  obtain ⟨tx,nm,a,l,cap,re,im,rfl,-,-⟩:=hn.shape
  generalize hkd:n.kind=kd at*
  have hka:=Keeps.alloc [] w1 (nodC kd tx nm (.slice a l cap) re im)
  have HN1:=Lib.hid (hn.keep0 hka);have HP1:=Lib.hid (hp1.keep hka);have HK1:=Lib.hid (hkw.trans hka (by simp))
  have HQ1:=Lib.hid (hka.at hq1 (by simp));have HB1:=Lib.hid (h_new w1 (nodC kd tx nm (.slice a l cap) re im))
  clear hn hp1 hkw hk1 hq1 hka
  go_wp2_with fail
  refine wp_loop_rounds 1 ?_
  rw [rounds_succ]
  go_wp2_with fail
  generalize w1.alloc (nodC kd tx nm (.slice a l cap) re im)=w2 at*
  refine (one_none HP1.out HN.out (by decide)).mono ?_
  rintro r w3 ⟨rfl,hk3⟩
  have hb3:=hk3.at HB1.out (by simp)
  have hq3:=hk3.at HQ1.out (by simp)
  have HN3:=Lib.hid (HN1.out.keep0 hk3);have HP3:=Lib.hid (HP1.out.keep hk3);have HK3:=Lib.hid (HK1.out.trans hk3 (by simp))
  have hl3:w.heap.size<w3.heap.size:=h_lt hq3
  have hl4:w1.heap.size<w3.heap.size:=h_lt hb3
  have x0:=cell_of_heap hb3 0
  have x1:=cell_of_heap hb3 1
  have x2:=cell_of_heap hb3 2
  have x3:=cell_of_heap hb3 3
  have x4:=cell_of_heap hb3 4
  have q0:=cell_of_heap hq3 0
  have q1:=cell_of_heap hq3 1
  have q2:=cell_of_heap hq3 2
  have q3:=cell_of_heap hq3 3
  have q4:=cell_of_heap hq3 4
  have qf0:=frozen_of_heap hq3 0
  have qf1:=frozen_of_heap hq3 1
  have qf2:=frozen_of_heap hq3 2
  have qf3:=frozen_of_heap hq3 3
  have qf4:=frozen_of_heap hq3 4
  simp at x0 x1 x2 x3 x4 q0 q1 q2 q3 q4
  have n5:w.heap.size≠w1.heap.size:=Nat.ne_of_lt hsz
  have n6:w1.heap.size≠w.heap.size:=Nat.ne_of_gt hsz
  clear hk3 hb3 hq3
  go_wp2_with fail
  have t5:=nod5 w3 w.heap.size kd tx nm (.slice a l cap) re im
  refine bodyPost_ret (v:= .agg #[.int .i64 kd,.string tx,.float .f64 nm,.slice a l cap,.complex .f64 re im]) (by simp [results,Tryz.results188,go_sem,q0,q1,q2,q3,q4]) rfl ⟨_,rfl, ?_, ?_, ?_⟩
  · exact HN3.out.keep t5 (by simp) (fun x hx=>Nat.le_of_lt hx)
  · exact HP3.out.keepN t5 (by simp;omega) (by simp;omega)
  · exact HK3.out.trans t5 (by simp)

theorem and_lv{s:ByteArray}{p:Nat}{st st':PSt}{n:Node}(hsub:Hands s p st st' n 224)(hno:noneF s st' ⟨#[38,38]⟩=some ()):Hands s p st st' n 206:=by
  intro w h
  have hlt:=h_lt h.row
  have H:=Lib.hid h;have HS:=Lib.hid hsub;have HN:=Lib.hid hno
  clear h hsub hno
  go_enter Tryz.func206,Tryz.ntmps206
  go_wp2_with fail
  refine (HS.out _ (H.out.keep (Keeps.alloc [] w (nodC 0 ⟨#[]⟩ 0 (.slice none 0 0) 0 0)))).mono ?_
  rintro r w1 ⟨v,rfl,hn',hp1,hk1⟩
  have hn:NodeR w1 (fun g=>w.heap.size<g) n v:=hn'.keep (Keeps.refl [] w1) (by simp) (fun x hx=>by have h2:=hx;simp at h2;omega)
  clear hn'
  have hq1:=hk1.at (h_new w (nodC 0 ⟨#[]⟩ 0 (.slice none 0 0) 0 0)) (by simp;omega)
  have hkw:Keeps [p] w w1:=(Keeps.alloc [p] w _).trans hk1 (fun _ h=> .inl h)
  have hsz:w.heap.size<w1.heap.size:=by have:=hk1.size;simp at this;omega
  have h14:=hp1.p
  obtain ⟨tx,nm,a,l,cap,re,im,rfl,-,-⟩:=hn.shape
  generalize hkd:n.kind=kd at*
  have hka:=Keeps.alloc [] w1 (nodC kd tx nm (.slice a l cap) re im)
  have HN1:=Lib.hid (hn.keep0 hka);have HP1:=Lib.hid (hp1.keep hka);have HK1:=Lib.hid (hkw.trans hka (by simp))
  have HQ1:=Lib.hid (hka.at hq1 (by simp));have HB1:=Lib.hid (h_new w1 (nodC kd tx nm (.slice a l cap) re im))
  clear hn hp1 hkw hk1 hq1 hka
  go_wp2_with fail
  refine wp_loop_rounds 1 ?_
  rw [rounds_succ]
  go_wp2_with fail
  generalize w1.alloc (nodC kd tx nm (.slice a l cap) re im)=w2 at*
  refine (one_none HP1.out HN.out (by decide)).mono ?_
  rintro r w3 ⟨rfl,hk3⟩
  have hb3:=hk3.at HB1.out (by simp)
  have hq3:=hk3.at HQ1.out (by simp)
  have HN3:=Lib.hid (HN1.out.keep0 hk3);have HP3:=Lib.hid (HP1.out.keep hk3);have HK3:=Lib.hid (HK1.out.trans hk3 (by simp))
  have hl3:w.heap.size<w3.heap.size:=h_lt hq3
  have hl4:w1.heap.size<w3.heap.size:=h_lt hb3
  have x0:=cell_of_heap hb3 0
  have x1:=cell_of_heap hb3 1
  have x2:=cell_of_heap hb3 2
  have x3:=cell_of_heap hb3 3
  have x4:=cell_of_heap hb3 4
  have q0:=cell_of_heap hq3 0
  have q1:=cell_of_heap hq3 1
  have q2:=cell_of_heap hq3 2
  have q3:=cell_of_heap hq3 3
  have q4:=cell_of_heap hq3 4
  have qf0:=frozen_of_heap hq3 0
  have qf1:=frozen_of_heap hq3 1
  have qf2:=frozen_of_heap hq3 2
  have qf3:=frozen_of_heap hq3 3
  have qf4:=frozen_of_heap hq3 4
  simp at x0 x1 x2 x3 x4 q0 q1 q2 q3 q4
  have n5:w.heap.size≠w1.heap.size:=Nat.ne_of_lt hsz
  have n6:w1.heap.size≠w.heap.size:=Nat.ne_of_gt hsz
  clear hk3 hb3 hq3
  go_wp2_with fail
  have t5:=nod5 w3 w.heap.size kd tx nm (.slice a l cap) re im
  refine bodyPost_ret (v:= .agg #[.int .i64 kd,.string tx,.float .f64 nm,.slice a l cap,.complex .f64 re im]) (by simp [results,Tryz.results206,go_sem,q0,q1,q2,q3,q4]) rfl ⟨_,rfl, ?_, ?_, ?_⟩
  · exact HN3.out.keep t5 (by simp) (fun x hx=>Nat.le_of_lt hx)
  · exact HP3.out.keepN t5 (by simp;omega) (by simp;omega)
  · exact HK3.out.trans t5 (by simp)

theorem match_lv{s:ByteArray}{p:Nat}{st st':PSt}{n:Node}(hsub:Hands s p st st' n 250)(hno:noneF s st' ⟨#[126,32,33,126]⟩=some ()):Hands s p st st' n 241:=by
  intro w h
  have hlt:=h_lt h.row
  have H:=Lib.hid h;have HS:=Lib.hid hsub;have HN:=Lib.hid hno
  clear h hsub hno
  go_enter Tryz.func241,Tryz.ntmps241
  go_wp2_with fail
  refine (HS.out _ (H.out.keep (Keeps.alloc [] w (nodC 0 ⟨#[]⟩ 0 (.slice none 0 0) 0 0)))).mono ?_
  rintro r w1 ⟨v,rfl,hn',hp1,hk1⟩
  have hn:NodeR w1 (fun g=>w.heap.size<g) n v:=hn'.keep (Keeps.refl [] w1) (by simp) (fun x hx=>by have h2:=hx;simp at h2;omega)
  clear hn'
  have hq1:=hk1.at (h_new w (nodC 0 ⟨#[]⟩ 0 (.slice none 0 0) 0 0)) (by simp;omega)
  have hkw:Keeps [p] w w1:=(Keeps.alloc [p] w _).trans hk1 (fun _ h=> .inl h)
  have hsz:w.heap.size<w1.heap.size:=by have:=hk1.size;simp at this;omega
  have h14:=hp1.p
  obtain ⟨tx,nm,a,l,cap,re,im,rfl,-,-⟩:=hn.shape
  generalize hkd:n.kind=kd at*
  have hka:=Keeps.alloc [] w1 (nodC kd tx nm (.slice a l cap) re im)
  have HN1:=Lib.hid (hn.keep0 hka);have HP1:=Lib.hid (hp1.keep hka);have HK1:=Lib.hid (hkw.trans hka (by simp))
  have HQ1:=Lib.hid (hka.at hq1 (by simp));have HB1:=Lib.hid (h_new w1 (nodC kd tx nm (.slice a l cap) re im))
  clear hn hp1 hkw hk1 hq1 hka
  go_wp2_with fail
  refine wp_loop_rounds 1 ?_
  rw [rounds_succ]
  go_wp2_with fail
  generalize w1.alloc (nodC kd tx nm (.slice a l cap) re im)=w2 at*
  refine (one_none HP1.out HN.out (by decide)).mono ?_
  rintro r w3 ⟨rfl,hk3⟩
  have hb3:=hk3.at HB1.out (by simp)
  have hq3:=hk3.at HQ1.out (by simp)
  have HN3:=Lib.hid (HN1.out.keep0 hk3);have HP3:=Lib.hid (HP1.out.keep hk3);have HK3:=Lib.hid (HK1.out.trans hk3 (by simp))
  have hl3:w.heap.size<w3.heap.size:=h_lt hq3
  have hl4:w1.heap.size<w3.heap.size:=h_lt hb3
  have x0:=cell_of_heap hb3 0
  have x1:=cell_of_heap hb3 1
  have x2:=cell_of_heap hb3 2
  have x3:=cell_of_heap hb3 3
  have x4:=cell_of_heap hb3 4
  have q0:=cell_of_heap hq3 0
  have q1:=cell_of_heap hq3 1
  have q2:=cell_of_heap hq3 2
  have q3:=cell_of_heap hq3 3
  have q4:=cell_of_heap hq3 4
  have qf0:=frozen_of_heap hq3 0
  have qf1:=frozen_of_heap hq3 1
  have qf2:=frozen_of_heap hq3 2
  have qf3:=frozen_of_heap hq3 3
  have qf4:=frozen_of_heap hq3 4
  simp at x0 x1 x2 x3 x4 q0 q1 q2 q3 q4
  have n5:w.heap.size≠w1.heap.size:=Nat.ne_of_lt hsz
  have n6:w1.heap.size≠w.heap.size:=Nat.ne_of_gt hsz
  clear hk3 hb3 hq3
  go_wp2_with fail
  have t5:=nod5 w3 w.heap.size kd tx nm (.slice a l cap) re im
  refine bodyPost_ret (v:= .agg #[.int .i64 kd,.string tx,.float .f64 nm,.slice a l cap,.complex .f64 re im]) (by simp [results,Tryz.results241,go_sem,q0,q1,q2,q3,q4]) rfl ⟨_,rfl, ?_, ?_, ?_⟩
  · exact HN3.out.keep t5 (by simp) (fun x hx=>Nat.le_of_lt hx)
  · exact HP3.out.keepN t5 (by simp;omega) (by simp;omega)
  · exact HK3.out.trans t5 (by simp)
end Go.Proofs.YteafcepaolofpaaGreatDoor
end
