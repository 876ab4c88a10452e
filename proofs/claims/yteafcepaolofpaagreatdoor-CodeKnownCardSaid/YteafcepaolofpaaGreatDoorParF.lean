/- Texts of this claim, joined: ParD, Plan, ParE, ParF. -/
import Derived.Test.YteafcepaolofpaaGreatDoorParC
set_option maxRecDepth 100000
set_option maxHeartbeats 4000000
set_option linter.unusedSimpArgs false
set_option linter.unusedVariables false
set_option linter.unusedSectionVars false
section
/- take put together; want, lines. Made by a program (mkP.py). -/
namespace Go.Proofs.YteafcepaolofpaaGreatDoor
open Go.RowKit

def opnF(x:ByteArray)(o:Int):Option Int:=
  if same x (bs [40])||same x (bs [91])||same x (bs [123]) then (if o<40 then some (o+1) else none)
  else if same x (bs [41])||same x (bs [93])||same x (bs [125]) then (if -100<o then some (o -1) else none) else some o
def takeF(s:ByteArray)(st:PSt)(x:ByteArray):Option (Bool×PSt):=do
  let t ←nextF s st.pos false
  if isT t x then do
    let o ←opnF x st.opn
    some (true,⟨t.to,o,st.ng⟩)
  else some (false,st)

theorem take_any{s:ByteArray}{p:Nat}{st st':PSt}{w:World}(h:PP s p st w){x:ByteArray}{b:Bool}(hx:takeF s st x=some (b,st')):
    Calls Tryz.prog 125 #[.pointer (some ⟨p,0,none⟩),.string x] w fun r w'=>r= .returned (.bool b)∧PP s p st' w'∧Keeps [p] w w':=by
  unfold takeF at hx
  cases ht:nextF s st.pos false with
  |none=>rw [ht] at hx;simp at hx
  | some t=>
    rw [ht] at hx
    simp only [Option.bind_eq_bind,Option.bind_some] at hx
    cases hi:isT t x
    · rw [hi] at hx
      simp only [Bool.false_eq_true,if_false,Option.some.injEq,Prod.mk.injEq] at hx
      obtain ⟨rfl,rfl⟩:=hx
      exact (take_no h ht hi).mono fun r w' ⟨hr,hk⟩=>⟨hr,h.keep hk,hk.weaken (by simp)⟩
    · rw [hi] at hx
      simp only [if_true] at hx
      cases ho:opnF x st.opn with
      |none=>rw [ho] at hx;simp at hx
      | some o=>
        rw [ho] at hx
        simp only [Option.bind_some,Option.some.injEq,Prod.mk.injEq] at hx
        obtain ⟨rfl,rfl⟩:=hx
        unfold opnF at ho
        have fin:∀{l:List UInt8},same x (bs l)=true→x=⟨l.toArray⟩:=fun h=>same_iff.1 h
        by_cases e40:same x (bs [40])=true
        · rw [e40] at ho
          have hxl:=fin e40
          subst hxl
          simp at ho
          obtain ⟨ho1,rfl⟩:=ho
          exact take_40 h ht ho1 hi
        by_cases e91:same x (bs [91])=true
        · rw [e91] at ho
          have hxl:=fin e91
          subst hxl
          simp [e40] at ho
          obtain ⟨ho1,rfl⟩:=ho
          exact take_91 h ht ho1 hi
        by_cases e123:same x (bs [123])=true
        · rw [e123] at ho
          have hxl:=fin e123
          subst hxl
          simp [e40,e91] at ho
          obtain ⟨ho1,rfl⟩:=ho
          exact take_123 h ht ho1 hi
        by_cases e41:same x (bs [41])=true
        · rw [e41] at ho
          have hxl:=fin e41
          subst hxl
          simp [e40,e91,e123] at ho
          obtain ⟨ho1,rfl⟩:=ho
          exact take_41 h ht ho1 hi
        by_cases e93:same x (bs [93])=true
        · rw [e93] at ho
          have hxl:=fin e93
          subst hxl
          simp [e40,e91,e123,e41] at ho
          obtain ⟨ho1,rfl⟩:=ho
          exact take_93 h ht ho1 hi
        by_cases e125:same x (bs [125])=true
        · rw [e125] at ho
          have hxl:=fin e125
          subst hxl
          simp [e40,e91,e123,e41,e93] at ho
          obtain ⟨ho1,rfl⟩:=ho
          exact take_125 h ht ho1 hi
        have n:∀{l:List UInt8},¬same x (bs l)=true→(x.toList==l)=false:=by
          intro l hl
          have h2:=same_eq x (bs l)
          rw [show (bs l).toList=l from by rw [bs,ByteArray.toList_mk]] at h2
          rw [h2]
          simpa using hl
        simp [e40,e91,e123,e41,e93,e125] at ho
        subst ho
        exact take_plain h ht (n e40) (n e91) (n e123) (n e41) (n e93) (n e125) hi

def wantF(s:ByteArray)(st:PSt)(x:ByteArray):Option PSt:=match takeF s st x with
  |some (true,st')=>some st'
  |_=>none
theorem want_any{s:ByteArray}{p:Nat}{st st':PSt}{w:World}(h:PP s p st w){x:ByteArray}(hx:wantF s st x=some st'):
    Calls Tryz.prog 126 #[.pointer (some ⟨p,0,none⟩),.string x] w fun r w'=>r= .returned (.tuple #[])∧PP s p st' w'∧Keeps [p] w w':=by
  have hx':takeF s st x=some (true,st'):=by
    unfold wantF at hx
    split at hx
    · rename_i st2 h2
      obtain rfl:=Option.some.inj hx
      exact h2
    · cases hx
  have ht:=take_any h hx'
  have H:=Lib.hid h;have HT:=Lib.hid ht
  clear h hx hx' ht
  go_enter Tryz.func126,Tryz.ntmps126
  go_wp2_with fail
  refine (ok_any H.out).mono ?_
  rintro r w' ⟨rfl,hw'⟩
  rw [hw']
  clear hw'
  go_wp2_with fail
  refine HT.out.mono ?_
  rintro r w1 ⟨rfl,hP,hK⟩
  have HP:=Lib.hid hP;have HK:=Lib.hid hK
  clear hP hK
  go_wp2_with fail
  go_end0
  exact ⟨rfl,HP.out,HK.out⟩

/-- Lines, and signs 'also', are gone by. -/
def linesF(s also:ByteArray):Nat→PSt→Option PSt
  |0,_=>none
  | f+1,st=>do
    let t ←nextF s st.pos false
    if t.kind=1∨(same also (bs [])=false∧t.kind=9∧same t.text also=true) then linesF s also f ⟨t.to,st.opn,st.ng⟩ else some st

theorem lines_any{s:ByteArray}{p:Nat}{st st':PSt}{w:World}(h:PP s p st w){also:ByteArray}{fu:Nat}(hx:linesF s also fu st=some st'):
    Calls Tryz.prog 48 #[.pointer (some ⟨p,0,none⟩),.string also] w fun r w'=>r= .returned (.tuple #[])∧PP s p st' w'∧Keeps [p] w w':=by
  have HP:=Lib.hid h;have HX:=Lib.hid hx
  clear h hx
  have hae:=same_eq also (bs [])
  rw [show (bs []).toList= [] from by rw [bs,ByteArray.toList_mk]] at hae
  have HAE:=Lib.hid hae
  clear hae
  go_enter Tryz.func48,Tryz.ntmps48
  go_wp2_with fail
  go_loopg [] fu (fun g wr=>∃st1,linesF s also g st1=some st'∧PP s p st1 wr∧Keeps [p] w wr)
  case atStart=>exact ⟨st,HX.out,HP.out,Keeps.refl _ _⟩
  case round=>
    obtain ⟨st1,hl,hP,hK⟩:=hrel
    skip
    cases gk with
    |zero=>simp [linesF] at hl
    | succ f=>
      rw [linesF] at hl
      cases ht:nextF s st1.pos false with
      |none=>rw [ht] at hl;simp at hl
      | some t=>
        rw [ht] at hl
        simp only [Option.bind_eq_bind,Option.bind_some] at hl
        have H:=Lib.hid hP;have HK:=Lib.hid hK;have HT:=Lib.hid ht
        obtain ⟨le1,le2,le3⟩:=nextF_le ht hP.le
        clear hP hK ht
        obtain ⟨kd,tx,nm,fr,te⟩:=t
        obtain ⟨pos,opn,ng⟩:=st1
        have hsq:=same_eq tx also
        simp only at hl le1 le2 le3
        by_cases h1:kd=1
        · subst h1
          rw [if_pos (.inl rfl)] at hl
          have HF:=Lib.hid hl
          clear hl hsq
          have q1:=cell_of_heap H.out.row 1
          simp at q1
          have hlt0:=h_lt H.out.row
          go_wp2_with fail
          refine (ok_any H.out).mono ?_
          rintro r w' ⟨rfl,hw'⟩
          rw [hw']
          clear hw'
          go_wp2_with fail
          refine (peek_any H.out HT.out H.out.le).mono ?_
          rintro r w1 ⟨rfl,hk1⟩
          clear q1 hlt0
          have HP1:=Lib.hid (H.out.keep hk1)
          have HK1:=Lib.hid hk1
          clear hk1
          go_wp2_with ((with_reducible show wpList _ _ _ (Oper.mk none (.store 109 _ _) _ _ _ _::_) _ _);refine stT 109 w1.heap.size 0 _ (h_new _ _) rfl (.agg #[.int .i64 1,.string tx,.float .f64 nm,.int .i64 fr,.int .i64 te]) rfl (by kernel_rfl) (by simp [Value.cells]) (by simp [Value.cells,Value.oneCell']) ?_)
          intro w2 hs2
          have x0:=cell_of_heap hs2.row 0
          have x1:=cell_of_heap hs2.row 1
          have x2:=cell_of_heap hs2.row 2
          have x3:=cell_of_heap hs2.row 3
          have x4:=cell_of_heap hs2.row 4
          simp at x0 x1 x2 x3 x4
          have hsz2:=HK1.out.size
          have HTR2:=Lib.hid hs2.row
          have hst2:Keeps [] w1 w2:=(Keeps.alloc [] w1 (tokC 0 ⟨#[]⟩ 0 0 0)).trans hs2.keeps (by simp)
          have HST2:=Lib.hid hst2
          have HK2:=Lib.hid (HK1.out.trans hst2 (by simp))
          clear hs2 hst2
          have HP2:=Lib.hid (HP1.out.keep HST2.out)
          have c0:=cell_of_heap HP2.out.row 0
          have f0:=frozen_of_heap HP2.out.row 0
          have c1:=cell_of_heap HP2.out.row 1
          have f1:=frozen_of_heap HP2.out.row 1
          have c2:=cell_of_heap HP2.out.row 2
          have f2:=frozen_of_heap HP2.out.row 2
          have c3:=cell_of_heap HP2.out.row 3
          have f3:=frozen_of_heap HP2.out.row 3
          have c4:=cell_of_heap HP2.out.row 4
          have f4:=frozen_of_heap HP2.out.row 4
          have c5:=cell_of_heap HP2.out.row 5
          have f5:=frozen_of_heap HP2.out.row 5
          simp at c0 c1 c2 c3 c4 c5
          have hlt:=h_lt HP2.out.row
          go_wp2_with fail
          go_roundg f
          case measure=>omega
          case rel=>
            have hrow:(w2.setCell ⟨p,1,none⟩ (.int .i64 te)).heap[p]? =some (parC s ⟨te,opn,ng⟩):=by
              have:=(h_set_eq (i:=1) (u:= .int .i64 te) HP2.out.row)
              simpa using this
            have hkp:Keeps [p] w2 (w2.setCell ⟨p,1,none⟩ (.int .i64 te)):=(Keeps.trans (Keeps.refl [p] w2) (Keeps.setCell [p] _ _ _ (by simp)) (by simp))
            exact ⟨⟨te,opn,ng⟩,HF.out,⟨HP2.out.gl.keep hkp (by simp;exact HP2.out.p),hrow,HP2.out.p,HP2.out.size,le2,HP2.out.ob⟩,HK.out.trans ((HK2.out.weaken (fp':= [p]) (by simp)).trans hkp (by simp)) (by simp)⟩

        · have n1 :(kd==1)=false:=beq_false_of_ne h1
          have n1':(kd !=1)=true:=by simp [h1]
          by_cases h2:same also (bs [])=false∧kd=9∧same tx also=true
          · obtain ⟨ha,rfl,hb⟩:=h2
            rw [if_pos (.inr ⟨ha,rfl,hb⟩)] at hl
            rw [hb] at hsq
            have hae:=HAE.out
            rw [ha] at hae
            have hae2:also.toList.isEmpty=false:=by simpa using hae
            have HF:=Lib.hid hl
            clear hl hb ha h1
            have q1:=cell_of_heap H.out.row 1
            simp at q1
            have hlt0:=h_lt H.out.row
            go_wp2_with fail
            refine (ok_any H.out).mono ?_
            rintro r w' ⟨rfl,hw'⟩
            rw [hw']
            clear hw'
            go_wp2_with fail
            refine (peek_any H.out HT.out H.out.le).mono ?_
            rintro r w1 ⟨rfl,hk1⟩
            clear q1 hlt0
            have HP1:=Lib.hid (H.out.keep hk1)
            have HK1:=Lib.hid hk1
            clear hk1
            go_wp2_with ((with_reducible show wpList _ _ _ (Oper.mk none (.store 109 _ _) _ _ _ _::_) _ _);refine stT 109 w1.heap.size 0 _ (h_new _ _) rfl (.agg #[.int .i64 9,.string tx,.float .f64 nm,.int .i64 fr,.int .i64 te]) rfl (by kernel_rfl) (by simp [Value.cells]) (by simp [Value.cells,Value.oneCell']) ?_)
            intro w2 hs2
            have x0:=cell_of_heap hs2.row 0
            have x1:=cell_of_heap hs2.row 1
            have x2:=cell_of_heap hs2.row 2
            have x3:=cell_of_heap hs2.row 3
            have x4:=cell_of_heap hs2.row 4
            simp at x0 x1 x2 x3 x4
            have hsz2:=HK1.out.size
            have HTR2:=Lib.hid hs2.row
            have hst2:Keeps [] w1 w2:=(Keeps.alloc [] w1 (tokC 0 ⟨#[]⟩ 0 0 0)).trans hs2.keeps (by simp)
            have HST2:=Lib.hid hst2
            have HK2:=Lib.hid (HK1.out.trans hst2 (by simp))
            clear hs2 hst2
            have HP2:=Lib.hid (HP1.out.keep HST2.out)
            have c0:=cell_of_heap HP2.out.row 0
            have f0:=frozen_of_heap HP2.out.row 0
            have c1:=cell_of_heap HP2.out.row 1
            have f1:=frozen_of_heap HP2.out.row 1
            have c2:=cell_of_heap HP2.out.row 2
            have f2:=frozen_of_heap HP2.out.row 2
            have c3:=cell_of_heap HP2.out.row 3
            have f3:=frozen_of_heap HP2.out.row 3
            have c4:=cell_of_heap HP2.out.row 4
            have f4:=frozen_of_heap HP2.out.row 4
            have c5:=cell_of_heap HP2.out.row 5
            have f5:=frozen_of_heap HP2.out.row 5
            simp at c0 c1 c2 c3 c4 c5
            have hlt:=h_lt HP2.out.row
            go_wp2_with fail
            go_roundg f
            case measure=>omega
            case rel=>
              have hrow:(w2.setCell ⟨p,1,none⟩ (.int .i64 te)).heap[p]? =some (parC s ⟨te,opn,ng⟩):=by
                have:=(h_set_eq (i:=1) (u:= .int .i64 te) HP2.out.row)
                simpa using this
              have hkp:Keeps [p] w2 (w2.setCell ⟨p,1,none⟩ (.int .i64 te)):=(Keeps.trans (Keeps.refl [p] w2) (Keeps.setCell [p] _ _ _ (by simp)) (by simp))
              exact ⟨⟨te,opn,ng⟩,HF.out,⟨HP2.out.gl.keep hkp (by simp;exact HP2.out.p),hrow,HP2.out.p,HP2.out.size,le2,HP2.out.ob⟩,HK.out.trans ((HK2.out.weaken (fp':= [p]) (by simp)).trans hkp (by simp)) (by simp)⟩

          · rw [if_neg (by rintro (h|h);exact h1 h;exact h2 h)] at hl
            obtain rfl:=Option.some.inj hl
            clear hl HX
            cases ha:same also (bs [])
            · have hae:=HAE.out
              rw [ha] at hae
              have hae2:also.toList.isEmpty=false:=by simpa using hae
              by_cases h9:kd=9
              · subst h9
                have hb:same tx also=false:=by
                  cases hb:same tx also
                  · rfl
                  · exact absurd ⟨ha,rfl,hb⟩ h2
                rw [hb] at hsq
                clear hb ha h2 h1
                have q1:=cell_of_heap H.out.row 1
                simp at q1
                have hlt0:=h_lt H.out.row
                go_wp2_with fail
                refine (ok_any H.out).mono ?_
                rintro r w' ⟨rfl,hw'⟩
                rw [hw']
                clear hw'
                go_wp2_with fail
                refine (peek_any H.out HT.out H.out.le).mono ?_
                rintro r w1 ⟨rfl,hk1⟩
                clear q1 hlt0
                have HP1:=Lib.hid (H.out.keep hk1)
                have HK1:=Lib.hid hk1
                clear hk1
                go_wp2_with ((with_reducible show wpList _ _ _ (Oper.mk none (.store 109 _ _) _ _ _ _::_) _ _);refine stT 109 w1.heap.size 0 _ (h_new _ _) rfl (.agg #[.int .i64 9,.string tx,.float .f64 nm,.int .i64 fr,.int .i64 te]) rfl (by kernel_rfl) (by simp [Value.cells]) (by simp [Value.cells,Value.oneCell']) ?_)
                intro w2 hs2
                have x0:=cell_of_heap hs2.row 0
                have x1:=cell_of_heap hs2.row 1
                have x2:=cell_of_heap hs2.row 2
                have x3:=cell_of_heap hs2.row 3
                have x4:=cell_of_heap hs2.row 4
                simp at x0 x1 x2 x3 x4
                have hsz2:=HK1.out.size
                have HTR2:=Lib.hid hs2.row
                have hst2:Keeps [] w1 w2:=(Keeps.alloc [] w1 (tokC 0 ⟨#[]⟩ 0 0 0)).trans hs2.keeps (by simp)
                have HST2:=Lib.hid hst2
                have HK2:=Lib.hid (HK1.out.trans hst2 (by simp))
                clear hs2 hst2
                have HP2:=Lib.hid (HP1.out.keep HST2.out)
                have c0:=cell_of_heap HP2.out.row 0
                have f0:=frozen_of_heap HP2.out.row 0
                have c1:=cell_of_heap HP2.out.row 1
                have f1:=frozen_of_heap HP2.out.row 1
                have c2:=cell_of_heap HP2.out.row 2
                have f2:=frozen_of_heap HP2.out.row 2
                have c3:=cell_of_heap HP2.out.row 3
                have f3:=frozen_of_heap HP2.out.row 3
                have c4:=cell_of_heap HP2.out.row 4
                have f4:=frozen_of_heap HP2.out.row 4
                have c5:=cell_of_heap HP2.out.row 5
                have f5:=frozen_of_heap HP2.out.row 5
                simp at c0 c1 c2 c3 c4 c5
                have hlt:=h_lt HP2.out.row
                go_wp2_with fail
                exact bodyPost_ret (v:= .tuple #[]) (by simp [results,Tryz.results48]) rfl ⟨rfl,HP2.out,HK.out.trans HK2.out (by simp)⟩

              · have n9:(kd==9)=false:=beq_false_of_ne h9
                clear ha h2 h1 h9 hsq
                have q1:=cell_of_heap H.out.row 1
                simp at q1
                have hlt0:=h_lt H.out.row
                go_wp2_with fail
                refine (ok_any H.out).mono ?_
                rintro r w' ⟨rfl,hw'⟩
                rw [hw']
                clear hw'
                go_wp2_with fail
                refine (peek_any H.out HT.out H.out.le).mono ?_
                rintro r w1 ⟨rfl,hk1⟩
                clear q1 hlt0
                have HP1:=Lib.hid (H.out.keep hk1)
                have HK1:=Lib.hid hk1
                clear hk1
                go_wp2_with ((with_reducible show wpList _ _ _ (Oper.mk none (.store 109 _ _) _ _ _ _::_) _ _);refine stT 109 w1.heap.size 0 _ (h_new _ _) rfl (.agg #[.int .i64 kd,.string tx,.float .f64 nm,.int .i64 fr,.int .i64 te]) rfl (by kernel_rfl) (by simp [Value.cells]) (by simp [Value.cells,Value.oneCell']) ?_)
                intro w2 hs2
                have x0:=cell_of_heap hs2.row 0
                have x1:=cell_of_heap hs2.row 1
                have x2:=cell_of_heap hs2.row 2
                have x3:=cell_of_heap hs2.row 3
                have x4:=cell_of_heap hs2.row 4
                simp at x0 x1 x2 x3 x4
                have hsz2:=HK1.out.size
                have HTR2:=Lib.hid hs2.row
                have hst2:Keeps [] w1 w2:=(Keeps.alloc [] w1 (tokC 0 ⟨#[]⟩ 0 0 0)).trans hs2.keeps (by simp)
                have HST2:=Lib.hid hst2
                have HK2:=Lib.hid (HK1.out.trans hst2 (by simp))
                clear hs2 hst2
                have HP2:=Lib.hid (HP1.out.keep HST2.out)
                have c0:=cell_of_heap HP2.out.row 0
                have f0:=frozen_of_heap HP2.out.row 0
                have c1:=cell_of_heap HP2.out.row 1
                have f1:=frozen_of_heap HP2.out.row 1
                have c2:=cell_of_heap HP2.out.row 2
                have f2:=frozen_of_heap HP2.out.row 2
                have c3:=cell_of_heap HP2.out.row 3
                have f3:=frozen_of_heap HP2.out.row 3
                have c4:=cell_of_heap HP2.out.row 4
                have f4:=frozen_of_heap HP2.out.row 4
                have c5:=cell_of_heap HP2.out.row 5
                have f5:=frozen_of_heap HP2.out.row 5
                simp at c0 c1 c2 c3 c4 c5
                have hlt:=h_lt HP2.out.row
                go_wp2_with fail
                exact bodyPost_ret (v:= .tuple #[]) (by simp [results,Tryz.results48]) rfl ⟨rfl,HP2.out,HK.out.trans HK2.out (by simp)⟩

            · have hae:=HAE.out
              rw [ha] at hae
              have hae2:also.toList.isEmpty=true:=by simpa using hae
              clear ha h2 h1 hsq
              have q1:=cell_of_heap H.out.row 1
              simp at q1
              have hlt0:=h_lt H.out.row
              go_wp2_with fail
              refine (ok_any H.out).mono ?_
              rintro r w' ⟨rfl,hw'⟩
              rw [hw']
              clear hw'
              go_wp2_with fail
              refine (peek_any H.out HT.out H.out.le).mono ?_
              rintro r w1 ⟨rfl,hk1⟩
              clear q1 hlt0
              have HP1:=Lib.hid (H.out.keep hk1)
              have HK1:=Lib.hid hk1
              clear hk1
              go_wp2_with ((with_reducible show wpList _ _ _ (Oper.mk none (.store 109 _ _) _ _ _ _::_) _ _);refine stT 109 w1.heap.size 0 _ (h_new _ _) rfl (.agg #[.int .i64 kd,.string tx,.float .f64 nm,.int .i64 fr,.int .i64 te]) rfl (by kernel_rfl) (by simp [Value.cells]) (by simp [Value.cells,Value.oneCell']) ?_)
              intro w2 hs2
              have x0:=cell_of_heap hs2.row 0
              have x1:=cell_of_heap hs2.row 1
              have x2:=cell_of_heap hs2.row 2
              have x3:=cell_of_heap hs2.row 3
              have x4:=cell_of_heap hs2.row 4
              simp at x0 x1 x2 x3 x4
              have hsz2:=HK1.out.size
              have HTR2:=Lib.hid hs2.row
              have hst2:Keeps [] w1 w2:=(Keeps.alloc [] w1 (tokC 0 ⟨#[]⟩ 0 0 0)).trans hs2.keeps (by simp)
              have HST2:=Lib.hid hst2
              have HK2:=Lib.hid (HK1.out.trans hst2 (by simp))
              clear hs2 hst2
              have HP2:=Lib.hid (HP1.out.keep HST2.out)
              have c0:=cell_of_heap HP2.out.row 0
              have f0:=frozen_of_heap HP2.out.row 0
              have c1:=cell_of_heap HP2.out.row 1
              have f1:=frozen_of_heap HP2.out.row 1
              have c2:=cell_of_heap HP2.out.row 2
              have f2:=frozen_of_heap HP2.out.row 2
              have c3:=cell_of_heap HP2.out.row 3
              have f3:=frozen_of_heap HP2.out.row 3
              have c4:=cell_of_heap HP2.out.row 4
              have f4:=frozen_of_heap HP2.out.row 4
              have c5:=cell_of_heap HP2.out.row 5
              have f5:=frozen_of_heap HP2.out.row 5
              simp at c0 c1 c2 c3 c4 c5
              have hlt:=h_lt HP2.out.row
              go_wp2_with fail
              exact bodyPost_ret (v:= .tuple #[]) (by simp [results,Tryz.results48]) rfl ⟨rfl,HP2.out,HK.out.trans HK2.out (by simp)⟩

end Go.Proofs.YteafcepaolofpaaGreatDoor
end
section
/- The document's parser, said plainly, as far as nothing is wrong and as far as the closed texts go (none: something else comes). -/
namespace Go.Proofs.YteafcepaolofpaaGreatDoor

inductive Node where
  |mk (kind:Int) (name:ByteArray) (num:Nat) (kids:List Node) (re im:Nat)
def Node.kind:Node→Int
  | .mk k _ _ _ _ _=>k
def Node.re:Node→Nat
  | .mk _ _ _ _ re _=>re
def Node.im:Node→Nat
  | .mk _ _ _ _ _ im=>im
def lval(n:Node):Bool:=n.kind==4||n.kind==5||n.kind==6

/-- The sign that comes, among these. -/
def oneF(s:ByteArray)(st:PSt)(sg:ByteArray):Option (Option (ByteArray×Nat×Nat)×PSt):=do
  let t ←nextF s st.pos false
  if t.kind==9&&among sg t.text then some (some (t.text,placeOf s t.fr),⟨t.to,st.opn,st.ng⟩) else some (none,st)
/-- None of these signs comes. -/
def noneF(s:ByteArray)(st:PSt)(sg:ByteArray):Option Unit:=do
  let x ←oneF s st sg
  match x.1 with
  |none=>some ()
  |some _=>none
def isF(s:ByteArray)(st:PSt)(x:ByteArray):Option Bool:=do
  let t ←nextF s st.pos false
  some (isT t x)
/-- None of these is taken. -/
def notF(s:ByteArray)(st:PSt)(x:ByteArray):Option Unit:=do
  let b ←isF s st x
  if b then none else some ()
def hereF(s:ByteArray)(st:PSt)(op:Bool):Option (Tok×Nat×Nat):=do
  let t ←nextF s st.pos op
  some (t,placeOf s t.fr)
def linesA(s:ByteArray)(st:PSt)(also:ByteArray):Option PSt:=linesF s also (s.size+2) st

def dollarSigns:ByteArray:=bs [36,32,40,32,43,43,32,45,45]
/-- Does an operand begin there that is joined to the one ahead? -/
def goesF(s:ByteArray)(st:PSt):Option Bool:=do
  let t ←nextF s st.pos false
  if t.kind=2∨t.kind=3∨t.kind=5∨t.kind=6∨t.kind=7 then some true
  else if t.kind=9 then some (among dollarSigns t.text) else some false
def beginSigns:ByteArray:=bs [36,32,40,32,43,43,32,45,45,32,43,32,45,32,33]
def beginsF(s:ByteArray)(st:PSt):Option Bool:=do
  let t ←nextF s st.pos true
  if t.kind=4 then none
  else if t.kind=2∨t.kind=3∨t.kind=5∨t.kind=6∨t.kind=7 then some true
  else if t.kind=9 then some (among beginSigns t.text) else some false

/-- Which function of the parser that hands back a node. -/
inductive Wh where
  |expr|cond|or|and|in|match|compare|concat|sum|product|unary|power|post|primary|operand|dollar
  |call (t:Tok) (re im:Nat)
  |simple|stmt|block

abbrev Rec:=Wh→PSt→Option (Node×PSt)
def plusminus:ByteArray:=bs [43,32,45]
def stars:ByteArray:=bs [42,32,47,32,37]
def incs:ByteArray:=bs [43,43,32,45,45]
def assigns:ByteArray:=bs [61,32,43,61,32,45,61,32,42,61,32,47,61,32,37,61,32,94,61]
def compares:ByteArray:=bs [60,32,60,61,32,61,61,32,33,61,32,62,61,32,62]
def comparesNo:ByteArray:=bs [60,32,60,61,32,61,61,32,33,61,32,62,61]

def concatF(s:ByteArray)(rec:Rec):Nat→Node→PSt→Option (Node×PSt)
  |0,_,_=>none
  | f +1,n,st=>do
    let b ←goesF s st
    if b then do
      let (m,st) ←rec .sum st
      concatF s rec f (.mk 14 (bs []) 0 [n,m] n.re n.im) st
    else some (n,st)
def sumF(s:ByteArray)(rec:Rec):Nat→Node→PSt→Option (Node×PSt)
  |0,_,_=>none
  | f +1,n,st=>do
    let (x,st) ←oneF s st plusminus
    match x with
    |none=>some (n,st)
    | some (x,re,im)=>do
      let (m,st) ←rec .product st
      sumF s rec f (.mk 15 x 0 [n,m] re im) st
def stmtsF(s:ByteArray)(rec:Rec):Nat→List Node→PSt→Option (List Node×PSt)
  |0,_,_=>none
  | f +1,l,st=>do
    let b ←isF s st (bs [125])
    if b then some (l,st) else do
      let (n,st) ←rec .stmt st
      let st ←linesA s st (bs [59])
      stmtsF s rec f (l++ [n]) st

/-- 'end': of a simple statement. -/
def endF(s:ByteArray)(st:PSt):Option PSt:=do
  let t ←nextF s st.pos false
  if t.kind=0 then some st else do
    let b ←isF s st (bs [125])
    if b then some st
    else if t.kind=1∨(t.kind=9∧same t.text (bs [59])=true) then some ⟨t.to,st.opn,st.ng⟩ else none

def step(s:ByteArray)(rec:Rec):Rec
  | .expr,st=>do
    let (n,st) ←rec .cond st
    if lval n then do
      let (x,st) ←oneF s st assigns
      match x with
      |none=>some (n,st)
      | some (x,re,im)=>do
        let (m,st) ←rec .expr st
        some (.mk 7 x 0 [n,m] re im,st)
    else some (n,st)
  | .cond,st=>do
    let (n,st) ←rec .or st
    noneF s st (bs [63])
    some (n,st)
  | .or,st=>do
    let (n,st) ←rec .and st
    noneF s st (bs [124,124])
    some (n,st)
  | .and,st=>do
    let (n,st) ←rec .in st
    noneF s st (bs [38,38])
    some (n,st)
  | .in,st=>do
    let (n,st) ←rec .match st
    notF s st (bs [105,110])
    some (n,st)
  | .match,st=>do
    let (n,st) ←rec .compare st
    noneF s st (bs [126,32,33,126])
    some (n,st)
  | .compare,st=>do
    let (n,st) ←rec .concat st
    noneF s st (if st.ng then comparesNo else compares)
    some (n,st)
  | .concat,st=>do
    let (n,st) ←rec .sum st
    concatF s rec 50 n st
  | .sum,st=>do
    let (n,st) ←rec .product st
    sumF s rec 50 n st
  | .product,st=>do
    let (n,st) ←rec .unary st
    noneF s st stars
    some (n,st)
  | .unary,st=>do
    noneF s st (bs [33,32,45,32,43])
    rec .power st
  | .power,st=>do
    let (n,st) ←rec .post st
    noneF s st (bs [94])
    some (n,st)
  | .post,st=>do
    let (n,st) ←rec .primary st
    if lval n then do
      let (x,st) ←oneF s st incs
      match x with
      |none=>some (n,st)
      |some (x,re,im)=>some (.mk 18 x 0 [n] re im,st)
    else some (n,st)
  | .primary,st=>do
    noneF s st incs
    notF s st (bs [40])
    rec .operand st
  | .operand,st=>do
    let t ←nextF s st.pos true
    let (re,im):=placeOf s t.fr
    if t.kind=2 then some (.mk 1 (bs []) t.num [] re im,⟨t.to,st.opn,st.ng⟩)
    else if t.kind=3 then (if t.text.size≤256 then some (.mk 2 t.text 0 [] re im,⟨t.to,st.opn,st.ng⟩) else none)
    else if t.kind=4 then (if t.text=bs [97] then some (.mk 3 t.text 0 [] re im,⟨t.to,st.opn,st.ng⟩) else none)
    else if t.kind=5 then do
      let (b,st) ←takeF s ⟨t.to,st.opn,st.ng⟩ (bs [91])
      if b then none
      else some (.mk 4 t.text 0 [] re im,st)
    else if t.kind=6∨t.kind=7 then none
    else if t.kind=9∧same t.text (bs [36])=true then do
      let (n,st) ←rec .dollar ⟨t.to,st.opn,st.ng⟩
      some (.mk 6 (bs []) 0 [n] re im,st)
    else none
  | .dollar,st=>do
    noneF s st incs
    notF s st (bs [40])
    rec .operand st
  | .call _ _ _,_=>none
  | .simple,st=>do
    let (_,re,im) ←hereF s st true
    notF s st (bs [98,114,101,97,107])
    notF s st (bs [99,111,110,116,105,110,117,101])
    let (b,st) ←takeF s st (bs [110,101,120,116])
    if b then some (.mk 38 (bs []) 0 [] re im,st) else do
      notF s st (bs [101,120,105,116])
      notF s st (bs [114,101,116,117,114,110])
      notF s st (bs [100,101,108,101,116,101])
      let (b,st) ←takeF s st (bs [112,114,105,110,116])
      if b then do
        let c ←beginsF s st
        if c then none
        else do
          notF s st (bs [62])
          some (.mk 42 (bs []) 0 [] re im,st)
      else do
        notF s st (bs [112,114,105,110,116,102])
        let (n,st) ←rec .expr st
        some (.mk 44 (bs []) 0 [n] n.re n.im,st)
  | .stmt,st=>do
    let _ ←hereF s st true
    notF s st (bs [123])
    notF s st (bs [105,102])
    notF s st (bs [119,104,105,108,101])
    notF s st (bs [100,111])
    notF s st (bs [102,111,114])
    let (n,st) ←rec .simple st
    let st ←endF s st
    some (n,st)
  | .block,st=>do
    let (_,re,im) ←hereF s st false
    let st ←wantF s st (bs [123])
    let st ←linesA s st (bs [59])
    let (l,st) ←stmtsF s rec 50 [] st
    let st ←wantF s st (bs [125])
    some (.mk 30 (bs []) 0 l re im,st)

def parN(s:ByteArray):Nat→Rec
  |0=>fun _ _=>none
  |n+1=>step s (parN s n)

structure RuleP where
  kind:Int
  n:Int
  pats:List Node
  body:Node
  re:Nat
  im:Nat
structure FuncP where
  name:ByteArray
  params:List ByteArray
  body:Node
  re:Nat
  im:Nat
structure ProgP where
  rules:List RuleP
  funcs:List FuncP

def functionF(_s:ByteArray)(_rec:Rec)(_st:PSt):Option (FuncP×PSt):=none
def ruleF(s:ByteArray)(rec:Rec)(st:PSt):Option (RuleP×PSt):=do
  let (_,re,im) ←hereF s st true
  let (b,st) ←takeF s st (bs [66,69,71,73,78])
  if b then do
    let (n,st) ←rec .block st
    some (⟨1,0,[],n,re,im⟩,st)
  else do
    notF s st (bs [69,78,68])
    notF s st (bs [71,65,80])
    notF s st (bs [69,86,69,82,89])
    let c ←isF s st (bs [123])
    if c then do
      let (n,st) ←rec .block st
      some (⟨5,0,[],n,re,im⟩,st)
    else do
      let (n,st) ←rec .expr st
      notF s st (bs [44])
      let d ←isF s st (bs [123])
      if d then do
        let (b,st) ←rec .block st
        some (⟨6,0,[n],b,re,im⟩,st)
      else none
def itemsF(s:ByteArray)(rec:Rec):Nat→ProgP→PSt→Option ProgP
  |0,_,_=>none
  | f + 1,g,st=>do
    let st ←linesA s st (bs [59])
    let t ←nextF s st.pos true
    if t.kind=0 then some g else do
      let b ←isF s st (bs [102,117,110,99,116,105,111,110])
      if b then do
        let (x,st) ←functionF s rec st
        itemsF s rec f ⟨g.rules,g.funcs++ [x]⟩ st
      else do
        let (x,st) ←ruleF s rec st
        itemsF s rec f ⟨g.rules++ [x],g.funcs⟩ st
def parseF(s:ByteArray):Option ProgP:=if s.size≤4096 then itemsF s (parN s 100) 50 ⟨[],[]⟩ ⟨0,0,false⟩ else none
end Go.Proofs.YteafcepaolofpaaGreatDoor
end
section
/- see, walked. -/
namespace Go.Proofs.YteafcepaolofpaaGreatDoor
open Go.RowKit

@[go_sem] theorem run_store_float {P:Program} {w:World} {a:Addr} {m:Mode} (k:FloatKind) (n:Nat):(store a (.float k n) m).run P w=stored P w a (.float k n) m:=run_store P w a _ m rfl
@[go_sem] theorem run_store_complex {P:Program} {w:World} {a:Addr} {m:Mode} (k:FloatKind) (x y:Nat):(store a (.complex k x y) m).run P w=stored P w a (.complex k x y) m:=run_store P w a _ m rfl

/-- A call of a Go function, as one step of a region that draws. -/
theorem step_call{P:Program}{ops:Array Oper}{o:Oper}{a:Act}{w:World}{K:Act→World→Prop}{Q:Exit→Act→World→Prop}{E:Prop}(hg:o.guard=none){f:FuncId}{vals:Array Value}(c:Call)(_ho:o.op= .call c)
    (hrun:(execOp a.eval o).run P w= .ok (.enter f vals) w) {R:Value→World→Prop} (hc:Calls P f vals w fun e w'=>∃v,e= .returned v∧R v w') (hK:∀v w',R v w'→K (a.put o.dst v) w'):
    if Region.wanted o (yielded ops a.tmps)=true then Oper.wp P o a w K Q else E:=by
  rw [if_pos (by simp [Region.wanted,hg])]
  unfold Oper.wp
  rw [hrun,Oper.upon_enter]
  exact hc.mono fun e w' ⟨v,he,hr⟩=>by subst he;exact hK v w' hr

theorem keeps_set{w W:World}(h:Keeps [] w W){b i:Nat}{u:Value}(hb:w.heap.size≤b):Keeps [] w (W.setCell ⟨b,i,none⟩ u):=
  h.trans (fp':= [b]) (Keeps.setCell _ _ _ _ (by simp)) (by simpa using hb)
theorem keeps_new{w W:World}(h:Keeps [] w W)(o:Obj):Keeps [] w (W.alloc o):=h.trans (Keeps.alloc [] W o) (by simp)
theorem keeps_drew{w W:World}(h:Keeps [] w W):Keeps [] w W.drew:=h.trans (Keeps.drew [] W) (by simp)

/-- A token laid cell by cell. -/
theorem tok5{W:World}{b:Nat}(h:W.heap[b]? =some (tokC 0 ⟨#[]⟩ 0 0 0))(kd:Int)(tx:ByteArray)(nm:Nat)(fr te:Int):
    (((((W.setCell ⟨b,0,none⟩ (.int .i64 kd)).setCell ⟨b,1,none⟩ (.string tx)).setCell ⟨b,2,none⟩ (.float .f64 nm)).setCell ⟨b,3,none⟩ (.int .i64 fr)).setCell ⟨b,4,none⟩ (.int .i64 te)).heap[b]? =some (tokC kd tx nm fr te)∧(∀k x,k≠b→W.heap[k]? =some x→(((((W.setCell ⟨b,0,none⟩ (.int .i64 kd)).setCell ⟨b,1,none⟩ (.string tx)).setCell ⟨b,2,none⟩ (.float .f64 nm)).setCell ⟨b,3,none⟩ (.int .i64 fr)).setCell ⟨b,4,none⟩ (.int .i64 te)).heap[k]? =some x)∧∀w,Keeps [] w W→w.heap.size≤b→Keeps [] w (((((W.setCell ⟨b,0,none⟩ (.int .i64 kd)).setCell ⟨b,1,none⟩ (.string tx)).setCell ⟨b,2,none⟩ (.float .f64 nm)).setCell ⟨b,3,none⟩ (.int .i64 fr)).setCell ⟨b,4,none⟩ (.int .i64 te)):=by
  refine ⟨?_,fun k x hk hx=> ?_,fun w hk hb=> ?_⟩
  · have:=h_set_eq (i:=4) (u:= .int .i64 te) (h_set_eq (i:=3) (u:= .int .i64 fr) (h_set_eq (i:=2) (u:= .float .f64 nm) (h_set_eq (i:=1) (u:= .string tx) (h_set_eq (i:=0) (u:= .int .i64 kd) h))))
    simpa using this
  · exact h_set_ne hk (h_set_ne hk (h_set_ne hk (h_set_ne hk (h_set_ne hk hx))))
  · exact keeps_set (keeps_set (keeps_set (keeps_set (keeps_set hk hb) hb) hb) hb) hb

theorem see_any{s:ByteArray}{p:Nat}{st:PSt}{w:World}(h:PP s p st w){op:Bool}{t:Tok}(ht:nextF s st.pos op=some t):
    Calls Tryz.prog 49 #[.pointer (some ⟨p,0,none⟩),.bool op] w fun r w'=>r= .returned (tokV t)∧Keeps [] w w':=by
  have c0:=cell_of_heap h.row 0
  have c1:=cell_of_heap h.row 1
  simp at c0 c1
  have hlt:=h_lt h.row
  have hN:∀W,Keeps [] w W→Calls Tryz.prog 77 #[.string s,.int .i64 st.pos,.bool op] W fun r w'=>∃v,r= .returned v∧(v= .tuple #[tokV t,.int .i64 0]∧Keeps [] W w'):=fun W hk=>(next_any (h.gl.keep hk (by simp)) ht h.le (by have:=h.size;omega)).mono fun r w' ⟨hr,hk⟩=>⟨_,hr,rfl,hk⟩
  have HN:=Lib.hid hN
  clear h hN ht
  obtain ⟨kd,tx,nm,fr,te⟩:=t
  obtain ⟨pos,opn,ng⟩:=st
  go_enter Tryz.func49,Tryz.ntmps49
  go_upto_region 1 with fail
  go_cut [5,6] (fun s5 s6 wx=>∃b,s5= .pointer (some ⟨b,0,none⟩)∧s6= .int .i64 0∧w.heap.size<b∧wx.heap[b]? =some (tokC kd tx nm fr te)∧wx.heap[w.heap.size]? =some (tokC 0 ⟨#[]⟩ 0 0 0)∧Keeps [] w wx)
  case first =>
    go_region_law ((refine step_call (f:=77) (vals:= #[.string s,.int .i64 pos,.bool op]) rfl _ rfl (by kernel_rfl) (HN.out _ (by first|exact keeps_drew (keeps_new (Keeps.refl [] w) _)|exact keeps_drew (keeps_new (keeps_new (Keeps.refl [] w) _) _))) ?_;rintro v w1 ⟨rfl,hk1⟩;have hq1:=hk1.at (show _=some (tokC 0 ⟨#[]⟩ 0 0 0) from (by first|exact h_new w _|exact h_alloc (h_new w _))) (by simp);have hkw:Keeps [] w w1:=(by first|exact (keeps_drew (keeps_new (Keeps.refl [] w) _)).trans hk1 (by simp)|exact (keeps_drew (keeps_new (keeps_new (Keeps.refl [] w) _) _)).trans hk1 (by simp));have hsz1:=hk1.size;simp at hsz1;have q0:=cell_of_heap hq1 0;have q1:=cell_of_heap hq1 1;have q2:=cell_of_heap hq1 2;have q3:=cell_of_heap hq1 3;have q4:=cell_of_heap hq1 4;have qf0:=frozen_of_heap hq1 0;have qf1:=frozen_of_heap hq1 1;have qf2:=frozen_of_heap hq1 2;have qf3:=frozen_of_heap hq1 3;have qf4:=frozen_of_heap hq1 4;simp at q0 q1 q2 q3 q4;try (have hb1:=hk1.at (h_new (w.alloc (tokC 0 ⟨#[]⟩ 0 0 0)) (tokC 0 ⟨#[]⟩ 0 0 0)) (by simp);rw [show (w.alloc (tokC 0 ⟨#[]⟩ 0 0 0)).heap.size=w.heap.size+1 from by simp] at hb1;have b0:=cell_of_heap hb1 0;have b1:=cell_of_heap hb1 1;have b2:=cell_of_heap hb1 2;have b3:=cell_of_heap hb1 3;have b4:=cell_of_heap hb1 4;have bf0:=frozen_of_heap hb1 0;have bf1:=frozen_of_heap hb1 1;have bf2:=frozen_of_heap hb1 2;have bf3:=frozen_of_heap hb1 3;have bf4:=frozen_of_heap hb1 4;simp at b0 b1 b2 b3 b4)))
    all_goals
      go_wp2_with fail
      go_meet
      case rel=>
        refine ⟨_,rfl,rfl, ?_⟩
        first
          | (have t:=tok5 hb1 kd tx nm fr te
             refine ⟨Nat.lt_succ_self _,t.1, ?_, ?_⟩
             · exact t.2.1 _ _ (Nat.ne_of_lt (Nat.lt_succ_self _)) hq1
             · exact t.2.2 w hkw (Nat.le_succ _))
          | (refine ⟨hsz1,h_new w1 (tokC kd tx nm fr te), ?_, ?_⟩
             · exact h_alloc hq1
             · exact keeps_new hkw _)
  case rest=>
    obtain ⟨b,rfl,rfl,hb,hr,hq,hk⟩:=hcut
    have x0:=cell_of_heap hr 0
    have x1:=cell_of_heap hr 1
    have x2:=cell_of_heap hr 2
    have x3:=cell_of_heap hr 3
    have x4:=cell_of_heap hr 4
    simp at x0 x1 x2 x3 x4
    have HQ:=Lib.hid hq;have HK:=Lib.hid hk
    clear hr hq hk
    go_wp2_with ((with_reducible show wpList _ _ _ (Oper.mk none (.store 109 _ _) _ _ _ _::_) _ _);refine stT 109 w.heap.size 0 _ HQ.out rfl (.agg #[.int .i64 kd,.string tx,.float .f64 nm,.int .i64 fr,.int .i64 te]) rfl (by kernel_rfl) (by simp [Value.cells]) (by simp [Value.cells,Value.oneCell']) ?_)
    intro w3 hs3
    have y0:=cell_of_heap hs3.row 0
    have y1:=cell_of_heap hs3.row 1
    have y2:=cell_of_heap hs3.row 2
    have y3:=cell_of_heap hs3.row 3
    have y4:=cell_of_heap hs3.row 4
    simp at y0 y1 y2 y3 y4
    have HK3:=Lib.hid (HK.out.trans hs3.keeps (by simp))
    clear hs3 x0 x1 x2 x3 x4
    go_wp2_with fail
    exact bodyPost_ret (v:= .agg #[.int .i64 kd,.string tx,.float .f64 nm,.int .i64 fr,.int .i64 te]) (by simp [results,Tryz.results49,go_sem,y0,y1,y2,y3,y4]) rfl ⟨rfl,HK3.out⟩
end Go.Proofs.YteafcepaolofpaaGreatDoor
end
section
/- name, walked, where nothing is wrong. -/
namespace Go.Proofs.YteafcepaolofpaaGreatDoor
open Go.RowKit

/-- The place in the text is put elsewhere. -/
theorem PP.put{s:ByteArray}{p:Nat}{st:PSt}{W:World}(h:PP s p st W){te:Nat}(ht:te≤s.size):PP s p ⟨te,st.opn,st.ng⟩ (W.setCell ⟨p,1,none⟩ (.int .i64 te))∧Keeps [p] W (W.setCell ⟨p,1,none⟩ (.int .i64 te)):=by
  have hk:Keeps [p] W (W.setCell ⟨p,1,none⟩ (.int .i64 te)):=Keeps.setCell _ _ _ _ (by simp)
  refine ⟨⟨h.gl.keep hk (by have:=h.p;simpa using this), ?_,h.p,h.size,ht,h.ob⟩,hk⟩
  have:=h_set_eq (i:=1) (u:= .int .i64 te) h.row
  simpa using this

theorem PP.keepN{s:ByteArray}{p:Nat}{st:PSt}{w w':World}(h:PP s p st w){fp:List Nat}(hk:Keeps fp w w')(hp:p∉fp)(hf:∀x∈fp,13<x):PP s p st w':=
  ⟨h.gl.keep hk hf,hk.at h.row hp,h.p,h.size,h.le,h.ob⟩
end Go.Proofs.YteafcepaolofpaaGreatDoor
end
