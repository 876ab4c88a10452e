/- Texts of this claim, joined: LevelsB, LevelsC, LevelsD. -/
import Derived.Test.YteafcepaolofpaaGreatDoorLevels
set_option maxRecDepth 100000
set_option maxHeartbeats 4000000
set_option linter.unusedSimpArgs false
set_option linter.unusedVariables false
set_option linter.unusedSectionVars false
section
/- Further levels of expressions, walked. Made by a program (mkM.py). -/
namespace Go.Proofs.YteafcepaolofpaaGreatDoor
open Go.RowKit

theorem is_not{s:ByteArray}{p:Nat}{st:PSt}{w:World}(h:PP s p st w){x:ByteArray}(hx:notF s st x=some ()):
    Calls Tryz.prog 79 #[.pointer (some ⟨p,0,none⟩),.string x] w fun r w'=>r= .returned (.bool false)∧Keeps [] w w':=by
  unfold notF isF at hx
  cases ht:nextF s st.pos false with
  |none=>rw [ht] at hx;simp at hx
  | some t=>
    rw [ht] at hx
    simp only [Option.bind_eq_bind,Option.bind_some] at hx
    have hi:=is_any h ht x
    cases hb:isT t x
    · rw [hb] at hi;exact hi
    · rw [hb] at hx;simp at hx

theorem unary_lv{s:ByteArray}{p:Nat}{st st':PSt}{n:Node}(h0:noneF s st ⟨#[33,32,45,32,43]⟩=some ())(hsub:Hands s p st st' n 263):Hands s p st st' n 262:=by
  intro w h
  have hlt:=h_lt h.row
  have h14:=h.p
  have HP0:=Lib.hid (h.keep (Keeps.alloc [] w (nodC 0 ⟨#[]⟩ 0 (.slice none 0 0) 0 0)));have HQ0:=Lib.hid (h_new w (nodC 0 ⟨#[]⟩ 0 (.slice none 0 0) 0 0));have HK0:=Lib.hid (Keeps.alloc [] w (nodC 0 ⟨#[]⟩ 0 (.slice none 0 0) 0 0))
  have HS:=Lib.hid hsub;have HH0:=Lib.hid h0
  clear h hsub h0
  go_enter Tryz.func262,Tryz.ntmps262
  go_wp2_with fail
  generalize w.alloc (nodC 0 ⟨#[]⟩ 0 (.slice none 0 0) 0 0)=w0 at*
  refine (one_none HP0.out HH0.out (by decide)).mono ?_
  rintro r w1 ⟨rfl,hk1⟩
  have HP1:=Lib.hid (HP0.out.keep hk1);have HQ1:=Lib.hid (hk1.at HQ0.out (by simp));have HK1:=Lib.hid (HK0.out.trans hk1 (by simp))
  clear hk1
  go_wp2_with fail
  refine (HS.out _ HP1.out).mono ?_
  rintro r w9 ⟨v,rfl,hn',hp9,hk9⟩
  have hsz:w.heap.size<w1.heap.size:=h_lt HQ1.out
  have hn:NodeR w9 (fun g=>w.heap.size<g) n v:=hn'.keep (Keeps.refl [] w9) (by simp) (fun x hx=>Nat.lt_of_lt_of_le hsz hx)
  have hq3:=hk9.at HQ1.out (by simp;omega)
  obtain ⟨tx,nm,a,l,cap,re,im,rfl,-,-⟩:=hn.shape
  generalize hkd:n.kind=kd at*
  have HN3:=Lib.hid hn;have HP3:=Lib.hid hp9;have HK3:=Lib.hid ((HK1.out.weaken (fp':= [p]) (by simp)).trans hk9 (by simp))
  have hl3:w.heap.size<w9.heap.size:=h_lt hq3
  have q0:=cell_of_heap hq3 0
  have q1:=cell_of_heap hq3 1
  have q2:=cell_of_heap hq3 2
  have q3:=cell_of_heap hq3 3
  have q4:=cell_of_heap hq3 4
  have qf0:=frozen_of_heap hq3 0
  have qf1:=frozen_of_heap hq3 1
  have qf2:=frozen_of_heap hq3 2
  have qf3:=frozen_of_heap hq3 3
  have qf4:=frozen_of_heap hq3 4
  simp at q0 q1 q2 q3 q4
  clear hn hn' hp9 hk9 hq3
  go_wp2_with fail
  have t5:=nod5 w9 w.heap.size kd tx nm (.slice a l cap) re im
  refine bodyPost_ret (v:= .agg #[.int .i64 kd,.string tx,.float .f64 nm,.slice a l cap,.complex .f64 re im]) (by simp [results,Tryz.results262,go_sem,q0,q1,q2,q3,q4]) rfl ⟨_,rfl, ?_, ?_, ?_⟩
  · exact HN3.out.keep t5 (by simp) (fun x hx=>Nat.le_of_lt hx)
  · exact HP3.out.keepN t5 (by simp;omega) (by simp;omega)
  · exact HK3.out.trans t5 (by simp)

theorem primary_lv{s:ByteArray}{p:Nat}{st st':PSt}{n:Node}(h0:noneF s st ⟨#[43,43,32,45,45]⟩=some ())(h1:notF s st ⟨#[40]⟩=some ())(hsub:Hands s p st st' n 267):Hands s p st st' n 265:=by
  intro w h
  have hlt:=h_lt h.row
  have h14:=h.p
  have HP0:=Lib.hid (h.keep (Keeps.alloc [] w (nodC 0 ⟨#[]⟩ 0 (.slice none 0 0) 0 0)));have HQ0:=Lib.hid (h_new w (nodC 0 ⟨#[]⟩ 0 (.slice none 0 0) 0 0));have HK0:=Lib.hid (Keeps.alloc [] w (nodC 0 ⟨#[]⟩ 0 (.slice none 0 0) 0 0))
  have HS:=Lib.hid hsub;have HH0:=Lib.hid h0;have HH1:=Lib.hid h1
  clear h hsub h0 h1
  go_enter Tryz.func265,Tryz.ntmps265
  go_wp2_with fail
  generalize w.alloc (nodC 0 ⟨#[]⟩ 0 (.slice none 0 0) 0 0)=w0 at*
  refine (ok_any HP0.out).mono ?_
  rintro r w' ⟨rfl,hw'⟩
  rw [hw']
  clear hw'
  go_wp2_with fail
  refine (one_none HP0.out HH0.out (by decide)).mono ?_
  rintro r w1 ⟨rfl,hk1⟩
  have HP1:=Lib.hid (HP0.out.keep hk1);have HQ1:=Lib.hid (hk1.at HQ0.out (by simp));have HK1:=Lib.hid (HK0.out.trans hk1 (by simp))
  clear hk1
  go_wp2_with fail
  refine (is_not HP1.out HH1.out).mono ?_
  rintro r w2 ⟨rfl,hk2⟩
  have HP2:=Lib.hid (HP1.out.keep hk2);have HQ2:=Lib.hid (hk2.at HQ1.out (by simp));have HK2:=Lib.hid (HK1.out.trans hk2 (by simp))
  clear hk2
  go_wp2_with fail
  refine (HS.out _ HP2.out).mono ?_
  rintro r w9 ⟨v,rfl,hn',hp9,hk9⟩
  have hsz:w.heap.size<w2.heap.size:=h_lt HQ2.out
  have hn:NodeR w9 (fun g=>w.heap.size<g) n v:=hn'.keep (Keeps.refl [] w9) (by simp) (fun x hx=>Nat.lt_of_lt_of_le hsz hx)
  have hq3:=hk9.at HQ2.out (by simp;omega)
  obtain ⟨tx,nm,a,l,cap,re,im,rfl,-,-⟩:=hn.shape
  generalize hkd:n.kind=kd at*
  have HN3:=Lib.hid hn;have HP3:=Lib.hid hp9;have HK3:=Lib.hid ((HK2.out.weaken (fp':= [p]) (by simp)).trans hk9 (by simp))
  have hl3:w.heap.size<w9.heap.size:=h_lt hq3
  have q0:=cell_of_heap hq3 0
  have q1:=cell_of_heap hq3 1
  have q2:=cell_of_heap hq3 2
  have q3:=cell_of_heap hq3 3
  have q4:=cell_of_heap hq3 4
  have qf0:=frozen_of_heap hq3 0
  have qf1:=frozen_of_heap hq3 1
  have qf2:=frozen_of_heap hq3 2
  have qf3:=frozen_of_heap hq3 3
  have qf4:=frozen_of_heap hq3 4
  simp at q0 q1 q2 q3 q4
  clear hn hn' hp9 hk9 hq3
  go_wp2_with fail
  have t5:=nod5 w9 w.heap.size kd tx nm (.slice a l cap) re im
  refine bodyPost_ret (v:= .agg #[.int .i64 kd,.string tx,.float .f64 nm,.slice a l cap,.complex .f64 re im]) (by simp [results,Tryz.results265,go_sem,q0,q1,q2,q3,q4]) rfl ⟨_,rfl, ?_, ?_, ?_⟩
  · exact HN3.out.keep t5 (by simp) (fun x hx=>Nat.le_of_lt hx)
  · exact HP3.out.keepN t5 (by simp;omega) (by simp;omega)
  · exact HK3.out.trans t5 (by simp)

theorem dollar_lv{s:ByteArray}{p:Nat}{st st':PSt}{n:Node}(h0:noneF s st ⟨#[43,43,32,45,45]⟩=some ())(h1:notF s st ⟨#[40]⟩=some ())(hsub:Hands s p st st' n 267):Hands s p st st' n 270:=by
  intro w h
  have hlt:=h_lt h.row
  have h14:=h.p
  have HP0:=Lib.hid (h.keep (Keeps.alloc [] w (nodC 0 ⟨#[]⟩ 0 (.slice none 0 0) 0 0)));have HQ0:=Lib.hid (h_new w (nodC 0 ⟨#[]⟩ 0 (.slice none 0 0) 0 0));have HK0:=Lib.hid (Keeps.alloc [] w (nodC 0 ⟨#[]⟩ 0 (.slice none 0 0) 0 0))
  have HS:=Lib.hid hsub;have HH0:=Lib.hid h0;have HH1:=Lib.hid h1
  clear h hsub h0 h1
  go_enter Tryz.func270,Tryz.ntmps270
  go_wp2_with fail
  generalize w.alloc (nodC 0 ⟨#[]⟩ 0 (.slice none 0 0) 0 0)=w0 at*
  refine (one_none HP0.out HH0.out (by decide)).mono ?_
  rintro r w1 ⟨rfl,hk1⟩
  have HP1:=Lib.hid (HP0.out.keep hk1);have HQ1:=Lib.hid (hk1.at HQ0.out (by simp));have HK1:=Lib.hid (HK0.out.trans hk1 (by simp))
  clear hk1
  go_wp2_with fail
  refine (is_not HP1.out HH1.out).mono ?_
  rintro r w2 ⟨rfl,hk2⟩
  have HP2:=Lib.hid (HP1.out.keep hk2);have HQ2:=Lib.hid (hk2.at HQ1.out (by simp));have HK2:=Lib.hid (HK1.out.trans hk2 (by simp))
  clear hk2
  go_wp2_with fail
  refine (HS.out _ HP2.out).mono ?_
  rintro r w9 ⟨v,rfl,hn',hp9,hk9⟩
  have hsz:w.heap.size<w2.heap.size:=h_lt HQ2.out
  have hn:NodeR w9 (fun g=>w.heap.size<g) n v:=hn'.keep (Keeps.refl [] w9) (by simp) (fun x hx=>Nat.lt_of_lt_of_le hsz hx)
  have hq3:=hk9.at HQ2.out (by simp;omega)
  obtain ⟨tx,nm,a,l,cap,re,im,rfl,-,-⟩:=hn.shape
  generalize hkd:n.kind=kd at*
  have HN3:=Lib.hid hn;have HP3:=Lib.hid hp9;have HK3:=Lib.hid ((HK2.out.weaken (fp':= [p]) (by simp)).trans hk9 (by simp))
  have hl3:w.heap.size<w9.heap.size:=h_lt hq3
  have q0:=cell_of_heap hq3 0
  have q1:=cell_of_heap hq3 1
  have q2:=cell_of_heap hq3 2
  have q3:=cell_of_heap hq3 3
  have q4:=cell_of_heap hq3 4
  have qf0:=frozen_of_heap hq3 0
  have qf1:=frozen_of_heap hq3 1
  have qf2:=frozen_of_heap hq3 2
  have qf3:=frozen_of_heap hq3 3
  have qf4:=frozen_of_heap hq3 4
  simp at q0 q1 q2 q3 q4
  clear hn hn' hp9 hk9 hq3
  go_wp2_with fail
  have t5:=nod5 w9 w.heap.size kd tx nm (.slice a l cap) re im
  refine bodyPost_ret (v:= .agg #[.int .i64 kd,.string tx,.float .f64 nm,.slice a l cap,.complex .f64 re im]) (by simp [results,Tryz.results270,go_sem,q0,q1,q2,q3,q4]) rfl ⟨_,rfl, ?_, ?_, ?_⟩
  · exact HN3.out.keep t5 (by simp) (fun x hx=>Nat.le_of_lt hx)
  · exact HP3.out.keepN t5 (by simp;omega) (by simp;omega)
  · exact HK3.out.trans t5 (by simp)
end Go.Proofs.YteafcepaolofpaaGreatDoor
end
section
/- The levels 'in' and 'compare', walked. Made by a program (mkN.py). -/
namespace Go.Proofs.YteafcepaolofpaaGreatDoor
open Go.RowKit

theorem in_lv{s:ByteArray}{p:Nat}{st st':PSt}{n:Node}(hsub:Hands s p st st' n 241)(hno:notF s st' ⟨#[105,110]⟩=some ()):Hands s p st st' n 224:=by
  intro w h
  have hlt:=h_lt h.row
  have H:=Lib.hid h;have HS:=Lib.hid hsub;have HN:=Lib.hid hno
  clear h hsub hno
  go_enter Tryz.func224,Tryz.ntmps224
  go_wp2_with fail
  refine (HS.out _ (H.out.keep (Keeps.alloc [] w (nodC 0 ⟨#[]⟩ 0 (.slice none 0 0) 0 0)))).mono ?_
  rintro r w1 ⟨v,rfl,hn',hp1,hk1⟩
  have hn:NodeR w1 (fun g=>w.heap.size<g) n v:=hn'.keep (Keeps.refl [] w1) (by simp) (fun x hx=>by have h2:=hx;simp at h2;omega)
  clear hn'
  have hq1:=hk1.at (h_new w (nodC 0 ⟨#[]⟩ 0 (.slice none 0 0) 0 0)) (by simp;omega)
  have hkw:Keeps [p] w w1:=(Keeps.alloc [p] w _).trans hk1 (fun _ h=> .inl h)
  have hsz:w.heap.size<w1.heap.size:=by have:=hk1.size;simp at this;omega
  have h14:=hp1.p
  obtain ⟨tx,nm,a,l,cap,re,im,rfl,-,-⟩:=hn.shape
  generalize hkd:n.kind=kd at*
  have hka:=Keeps.alloc [] w1 (nodC kd tx nm (.slice a l cap) re im)
  have HN1:=Lib.hid (hn.keep0 hka);have HP1:=Lib.hid (hp1.keep hka);have HK1:=Lib.hid (hkw.trans hka (by simp))
  have HQ1:=Lib.hid (hka.at hq1 (by simp));have HB1:=Lib.hid (h_new w1 (nodC kd tx nm (.slice a l cap) re im))
  clear hn hp1 hkw hk1 hq1 hka
  go_wp2_with fail
  refine wp_loop_rounds 1 ?_
  rw [rounds_succ]
  go_wp2_with fail
  generalize w1.alloc (nodC kd tx nm (.slice a l cap) re im)=w2 at*
  refine (is_not HP1.out HN.out).mono ?_
  rintro r w3 ⟨rfl,hk3⟩
  have hb3:=hk3.at HB1.out (by simp)
  have hq3:=hk3.at HQ1.out (by simp)
  have HN3:=Lib.hid (HN1.out.keep0 hk3);have HP3:=Lib.hid (HP1.out.keep hk3);have HK3:=Lib.hid (HK1.out.trans hk3 (by simp))
  have hl3:w.heap.size<w3.heap.size:=h_lt hq3
  have hl4:w1.heap.size<w3.heap.size:=h_lt hb3
  have x0:=cell_of_heap hb3 0
  have x1:=cell_of_heap hb3 1
  have x2:=cell_of_heap hb3 2
  have x3:=cell_of_heap hb3 3
  have x4:=cell_of_heap hb3 4
  have q0:=cell_of_heap hq3 0
  have q1:=cell_of_heap hq3 1
  have q2:=cell_of_heap hq3 2
  have q3:=cell_of_heap hq3 3
  have q4:=cell_of_heap hq3 4
  have qf0:=frozen_of_heap hq3 0
  have qf1:=frozen_of_heap hq3 1
  have qf2:=frozen_of_heap hq3 2
  have qf3:=frozen_of_heap hq3 3
  have qf4:=frozen_of_heap hq3 4
  simp at x0 x1 x2 x3 x4 q0 q1 q2 q3 q4
  have n5:w.heap.size≠w1.heap.size:=Nat.ne_of_lt hsz
  have n6:w1.heap.size≠w.heap.size:=Nat.ne_of_gt hsz
  clear hk3 hb3 hq3
  go_wp2_with fail
  have t5:=nod5 w3 w.heap.size kd tx nm (.slice a l cap) re im
  refine bodyPost_ret (v:= .agg #[.int .i64 kd,.string tx,.float .f64 nm,.slice a l cap,.complex .f64 re im]) (by simp [results,Tryz.results224,go_sem,q0,q1,q2,q3,q4]) rfl ⟨_,rfl, ?_, ?_, ?_⟩
  · exact HN3.out.keep t5 (by simp) (fun x hx=>Nat.le_of_lt hx)
  · exact HP3.out.keepN t5 (by simp;omega) (by simp;omega)
  · exact HK3.out.trans t5 (by simp)

theorem compare_true_lv{s:ByteArray}{p:Nat}{st st':PSt}{n:Node}(hsub:Hands s p st st' n 256)(hno:noneF s st' ⟨#[60,32,60,61,32,61,61,32,33,61,32,62,61]⟩=some ())(hng:st'.ng=true):Hands s p st st' n 250:=by
  intro w h
  have hlt:=h_lt h.row
  have H:=Lib.hid h;have HS:=Lib.hid hsub;have HN:=Lib.hid hno
  clear h hsub hno
  go_enter Tryz.func250,Tryz.ntmps250
  go_wp2_with fail
  refine (HS.out _ (H.out.keep (Keeps.alloc [] w (nodC 0 ⟨#[]⟩ 0 (.slice none 0 0) 0 0)))).mono ?_
  rintro r w1 ⟨v,rfl,hn',hp1,hk1⟩
  have hn:NodeR w1 (fun g=>w.heap.size<g) n v:=hn'.keep (Keeps.refl [] w1) (by simp) (fun x hx=>by have h2:=hx;simp at h2;omega)
  clear hn'
  have hq1:=hk1.at (h_new w (nodC 0 ⟨#[]⟩ 0 (.slice none 0 0) 0 0)) (by simp;omega)
  have hkw:Keeps [p] w w1:=(Keeps.alloc [p] w _).trans hk1 (fun _ h=> .inl h)
  have hsz:w.heap.size<w1.heap.size:=by have:=hk1.size;simp at this;omega
  have h14:=hp1.p
  obtain ⟨tx,nm,a,l,cap,re,im,rfl,-,-⟩:=hn.shape
  generalize hkd:n.kind=kd at*
  have hka:=Keeps.alloc [] w1 (nodC kd tx nm (.slice a l cap) re im)
  have HN1:=Lib.hid (hn.keep0 hka);have HP1:=Lib.hid (hp1.keep hka);have HK1:=Lib.hid (hkw.trans hka (by simp))
  have HQ1:=Lib.hid (hka.at hq1 (by simp));have HB1:=Lib.hid (h_new w1 (nodC kd tx nm (.slice a l cap) re im))
  clear hn hp1 hkw hk1 hq1 hka
  have hlp:p<w1.heap.size:=by omega
  generalize hw2:w1.alloc (nodC kd tx nm (.slice a l cap) re im)=w2 at*
  have c3:=cell_of_heap HP1.out.row 3
  simp [hng] at c3
  go_wp2_with fail
  refine (one_none HP1.out HN.out (by decide)).mono ?_
  rintro r w3 ⟨rfl,hk3⟩
  have hb3:=hk3.at HB1.out (by simp)
  have hq3:=hk3.at HQ1.out (by simp)
  have HN3:=Lib.hid (HN1.out.keep0 hk3);have HP3:=Lib.hid (HP1.out.keep hk3);have HK3:=Lib.hid (HK1.out.trans hk3 (by simp))
  have hl3:w.heap.size<w3.heap.size:=h_lt hq3
  have hl4:w1.heap.size<w3.heap.size:=h_lt hb3
  have x0:=cell_of_heap hb3 0
  have x1:=cell_of_heap hb3 1
  have x2:=cell_of_heap hb3 2
  have x3:=cell_of_heap hb3 3
  have x4:=cell_of_heap hb3 4
  have q0:=cell_of_heap hq3 0
  have q1:=cell_of_heap hq3 1
  have q2:=cell_of_heap hq3 2
  have q3:=cell_of_heap hq3 3
  have q4:=cell_of_heap hq3 4
  have qf0:=frozen_of_heap hq3 0
  have qf1:=frozen_of_heap hq3 1
  have qf2:=frozen_of_heap hq3 2
  have qf3:=frozen_of_heap hq3 3
  have qf4:=frozen_of_heap hq3 4
  simp at x0 x1 x2 x3 x4 q0 q1 q2 q3 q4
  have n5:w.heap.size≠w1.heap.size:=Nat.ne_of_lt hsz
  have n6:w1.heap.size≠w.heap.size:=Nat.ne_of_gt hsz
  clear hk3 hb3 hq3
  go_wp2_with fail
  have t5:=nod5 w3 w.heap.size kd tx nm (.slice a l cap) re im
  refine bodyPost_ret (v:= .agg #[.int .i64 kd,.string tx,.float .f64 nm,.slice a l cap,.complex .f64 re im]) (by simp [results,Tryz.results250,go_sem,q0,q1,q2,q3,q4]) rfl ⟨_,rfl, ?_, ?_, ?_⟩
  · exact HN3.out.keep t5 (by simp) (fun x hx=>Nat.le_of_lt hx)
  · exact HP3.out.keepN t5 (by simp;omega) (by simp;omega)
  · exact HK3.out.trans t5 (by simp)

theorem compare_false_lv{s:ByteArray}{p:Nat}{st st':PSt}{n:Node}(hsub:Hands s p st st' n 256)(hno:noneF s st' ⟨#[60,32,60,61,32,61,61,32,33,61,32,62,61,32,62]⟩=some ())(hng:st'.ng=false):Hands s p st st' n 250:=by
  intro w h
  have hlt:=h_lt h.row
  have H:=Lib.hid h;have HS:=Lib.hid hsub;have HN:=Lib.hid hno
  clear h hsub hno
  go_enter Tryz.func250,Tryz.ntmps250
  go_wp2_with fail
  refine (HS.out _ (H.out.keep (Keeps.alloc [] w (nodC 0 ⟨#[]⟩ 0 (.slice none 0 0) 0 0)))).mono ?_
  rintro r w1 ⟨v,rfl,hn',hp1,hk1⟩
  have hn:NodeR w1 (fun g=>w.heap.size<g) n v:=hn'.keep (Keeps.refl [] w1) (by simp) (fun x hx=>by have h2:=hx;simp at h2;omega)
  clear hn'
  have hq1:=hk1.at (h_new w (nodC 0 ⟨#[]⟩ 0 (.slice none 0 0) 0 0)) (by simp;omega)
  have hkw:Keeps [p] w w1:=(Keeps.alloc [p] w _).trans hk1 (fun _ h=> .inl h)
  have hsz:w.heap.size<w1.heap.size:=by have:=hk1.size;simp at this;omega
  have h14:=hp1.p
  obtain ⟨tx,nm,a,l,cap,re,im,rfl,-,-⟩:=hn.shape
  generalize hkd:n.kind=kd at*
  have hka:=Keeps.alloc [] w1 (nodC kd tx nm (.slice a l cap) re im)
  have HN1:=Lib.hid (hn.keep0 hka);have HP1:=Lib.hid (hp1.keep hka);have HK1:=Lib.hid (hkw.trans hka (by simp))
  have HQ1:=Lib.hid (hka.at hq1 (by simp));have HB1:=Lib.hid (h_new w1 (nodC kd tx nm (.slice a l cap) re im))
  clear hn hp1 hkw hk1 hq1 hka
  have hlp:p<w1.heap.size:=by omega
  generalize hw2:w1.alloc (nodC kd tx nm (.slice a l cap) re im)=w2 at*
  have c3:=cell_of_heap HP1.out.row 3
  simp [hng] at c3
  go_wp2_with fail
  refine (one_none HP1.out HN.out (by decide)).mono ?_
  rintro r w3 ⟨rfl,hk3⟩
  have hb3:=hk3.at HB1.out (by simp)
  have hq3:=hk3.at HQ1.out (by simp)
  have HN3:=Lib.hid (HN1.out.keep0 hk3);have HP3:=Lib.hid (HP1.out.keep hk3);have HK3:=Lib.hid (HK1.out.trans hk3 (by simp))
  have hl3:w.heap.size<w3.heap.size:=h_lt hq3
  have hl4:w1.heap.size<w3.heap.size:=h_lt hb3
  have x0:=cell_of_heap hb3 0
  have x1:=cell_of_heap hb3 1
  have x2:=cell_of_heap hb3 2
  have x3:=cell_of_heap hb3 3
  have x4:=cell_of_heap hb3 4
  have q0:=cell_of_heap hq3 0
  have q1:=cell_of_heap hq3 1
  have q2:=cell_of_heap hq3 2
  have q3:=cell_of_heap hq3 3
  have q4:=cell_of_heap hq3 4
  have qf0:=frozen_of_heap hq3 0
  have qf1:=frozen_of_heap hq3 1
  have qf2:=frozen_of_heap hq3 2
  have qf3:=frozen_of_heap hq3 3
  have qf4:=frozen_of_heap hq3 4
  simp at x0 x1 x2 x3 x4 q0 q1 q2 q3 q4
  have n5:w.heap.size≠w1.heap.size:=Nat.ne_of_lt hsz
  have n6:w1.heap.size≠w.heap.size:=Nat.ne_of_gt hsz
  clear hk3 hb3 hq3
  go_wp2_with fail
  have t5:=nod5 w3 w.heap.size kd tx nm (.slice a l cap) re im
  refine bodyPost_ret (v:= .agg #[.int .i64 kd,.string tx,.float .f64 nm,.slice a l cap,.complex .f64 re im]) (by simp [results,Tryz.results250,go_sem,q0,q1,q2,q3,q4]) rfl ⟨_,rfl, ?_, ?_, ?_⟩
  · exact HN3.out.keep t5 (by simp) (fun x hx=>Nat.le_of_lt hx)
  · exact HP3.out.keepN t5 (by simp;omega) (by simp;omega)
  · exact HK3.out.trans t5 (by simp)
end Go.Proofs.YteafcepaolofpaaGreatDoor
end
section
/- post and expr where they hand on, walked. Made by a program (mkO.py). -/
namespace Go.Proofs.YteafcepaolofpaaGreatDoor
open Go.RowKit

theorem post_no{s:ByteArray}{p:Nat}{st st':PSt}{n:Node}(hsub:Hands s p st st' n 265)(hl:lval n=false):Hands s p st st' n 264:=by
  intro w h
  have hlt:=h_lt h.row
  have H:=Lib.hid h;have HS:=Lib.hid hsub;have HL:=Lib.hid hl
  clear h hsub hl
  go_enter Tryz.func264,Tryz.ntmps264
  go_wp2_with fail
  refine (HS.out _ (H.out.keep (Keeps.alloc [] w (nodC 0 ⟨#[]⟩ 0 (.slice none 0 0) 0 0)))).mono ?_
  rintro r w1 ⟨v,rfl,hn',hp1,hk1⟩
  have hn:NodeR w1 (fun g=>w.heap.size<g) n v:=hn'.keep (Keeps.refl [] w1) (by simp) (fun x hx=>by have h2:=hx;simp at h2;omega)
  clear hn'
  have hq1:=hk1.at (h_new w (nodC 0 ⟨#[]⟩ 0 (.slice none 0 0) 0 0)) (by simp;omega)
  have hkw:Keeps [p] w w1:=(Keeps.alloc [p] w _).trans hk1 (fun _ h=> .inl h)
  have hsz:w.heap.size<w1.heap.size:=by have:=hk1.size;simp at this;omega
  have h14:=hp1.p
  obtain ⟨tx,nm,a,l,cap,re,im,rfl,-,-⟩:=hn.shape
  generalize hkd:n.kind=kd at*
  have hka:=Keeps.alloc [] w1 (nodC kd tx nm (.slice a l cap) re im)
  have HN1:=Lib.hid (hn.keep0 hka);have HP1:=Lib.hid (hp1.keep hka);have HK1:=Lib.hid (hkw.trans hka (by simp))
  have HQ1:=Lib.hid (hka.at hq1 (by simp));have HB1:=Lib.hid (h_new w1 (nodC kd tx nm (.slice a l cap) re im))
  clear hn hp1 hkw hk1 hq1 hka
  go_wp2_with fail
  generalize w1.alloc (nodC kd tx nm (.slice a l cap) re im)=w2 at*
  have hb2:w1.heap.size<w2.heap.size:=h_lt HB1.out
  have y0:=cell_of_heap HB1.out 0
  have y1:=cell_of_heap HB1.out 1
  have y2:=cell_of_heap HB1.out 2
  have y3:=cell_of_heap HB1.out 3
  have y4:=cell_of_heap HB1.out 4
  simp at y0 y1 y2 y3 y4

  refine (ok_any HP1.out).mono ?_
  rintro r w' ⟨rfl,hw'⟩
  rw [hw']
  clear hw'
  go_wp2_with fail
  refine (lvalue_any HN1.out).mono ?_
  rintro r w4 ⟨rfl,hk4⟩
  rw [HL.out]
  have HN4:=Lib.hid (HN1.out.keep0 hk4);have HP4:=Lib.hid (HP1.out.keep hk4);have HK4:=Lib.hid (HK1.out.trans hk4 (by simp))
  have HQ4:=Lib.hid (hk4.at HQ1.out (by simp));have HB4:=Lib.hid (hk4.at HB1.out (by simp))
  clear hk4 y0 y1 y2 y3 y4
  have hq3:=HQ4.out
  have hb3:=HB4.out
  have hl3:w.heap.size<w4.heap.size:=h_lt hq3
  have hl4:w1.heap.size<w4.heap.size:=h_lt hb3
  have x0:=cell_of_heap hb3 0
  have x1:=cell_of_heap hb3 1
  have x2:=cell_of_heap hb3 2
  have x3:=cell_of_heap hb3 3
  have x4:=cell_of_heap hb3 4
  simp at x0 x1 x2 x3 x4
  have q0:=cell_of_heap hq3 0
  have qf0:=frozen_of_heap hq3 0
  have q1:=cell_of_heap hq3 1
  have qf1:=frozen_of_heap hq3 1
  have q2:=cell_of_heap hq3 2
  have qf2:=frozen_of_heap hq3 2
  have q3:=cell_of_heap hq3 3
  have qf3:=frozen_of_heap hq3 3
  have q4:=cell_of_heap hq3 4
  have qf4:=frozen_of_heap hq3 4
  simp at q0 q1 q2 q3 q4
  have n5:w.heap.size≠w1.heap.size:=Nat.ne_of_lt hsz
  have n6:w1.heap.size≠w.heap.size:=Nat.ne_of_gt hsz
  clear hb3 hq3
  go_wp2_with fail
  have t5:=nod5 w4 w.heap.size kd tx nm (.slice a l cap) re im
  refine bodyPost_ret (v:= .agg #[.int .i64 kd,.string tx,.float .f64 nm,.slice a l cap,.complex .f64 re im]) (by simp [results,Tryz.results264,go_sem,q0,q1,q2,q3,q4]) rfl ⟨_,rfl, ?_, ?_, ?_⟩
  · exact HN4.out.keep t5 (by simp) (fun x hx=>Nat.le_of_lt hx)
  · exact HP4.out.keepN t5 (by simp;omega) (by simp;omega)
  · exact HK4.out.trans t5 (by simp)

theorem post_none{s:ByteArray}{p:Nat}{st st':PSt}{n:Node}(hsub:Hands s p st st' n 265)(hl:lval n=true)(ho:noneF s st' ⟨#[43,43,32,45,45]⟩=some ()):Hands s p st st' n 264:=by
  intro w h
  have hlt:=h_lt h.row
  have H:=Lib.hid h;have HS:=Lib.hid hsub;have HL:=Lib.hid hl
  have HO:=Lib.hid ho
  clear h hsub hl ho
  go_enter Tryz.func264,Tryz.ntmps264
  go_wp2_with fail
  refine (HS.out _ (H.out.keep (Keeps.alloc [] w (nodC 0 ⟨#[]⟩ 0 (.slice none 0 0) 0 0)))).mono ?_
  rintro r w1 ⟨v,rfl,hn',hp1,hk1⟩
  have hn:NodeR w1 (fun g=>w.heap.size<g) n v:=hn'.keep (Keeps.refl [] w1) (by simp) (fun x hx=>by have h2:=hx;simp at h2;omega)
  clear hn'
  have hq1:=hk1.at (h_new w (nodC 0 ⟨#[]⟩ 0 (.slice none 0 0) 0 0)) (by simp;omega)
  have hkw:Keeps [p] w w1:=(Keeps.alloc [p] w _).trans hk1 (fun _ h=> .inl h)
  have hsz:w.heap.size<w1.heap.size:=by have:=hk1.size;simp at this;omega
  have h14:=hp1.p
  obtain ⟨tx,nm,a,l,cap,re,im,rfl,-,-⟩:=hn.shape
  generalize hkd:n.kind=kd at*
  have hka:=Keeps.alloc [] w1 (nodC kd tx nm (.slice a l cap) re im)
  have HN1:=Lib.hid (hn.keep0 hka);have HP1:=Lib.hid (hp1.keep hka);have HK1:=Lib.hid (hkw.trans hka (by simp))
  have HQ1:=Lib.hid (hka.at hq1 (by simp));have HB1:=Lib.hid (h_new w1 (nodC kd tx nm (.slice a l cap) re im))
  clear hn hp1 hkw hk1 hq1 hka
  go_wp2_with fail
  generalize w1.alloc (nodC kd tx nm (.slice a l cap) re im)=w2 at*
  have hb2:w1.heap.size<w2.heap.size:=h_lt HB1.out
  have y0:=cell_of_heap HB1.out 0
  have y1:=cell_of_heap HB1.out 1
  have y2:=cell_of_heap HB1.out 2
  have y3:=cell_of_heap HB1.out 3
  have y4:=cell_of_heap HB1.out 4
  simp at y0 y1 y2 y3 y4

  refine (ok_any HP1.out).mono ?_
  rintro r w' ⟨rfl,hw'⟩
  rw [hw']
  clear hw'
  go_wp2_with fail
  refine (lvalue_any HN1.out).mono ?_
  rintro r w4 ⟨rfl,hk4⟩
  rw [HL.out]
  have HN4:=Lib.hid (HN1.out.keep0 hk4);have HP4:=Lib.hid (HP1.out.keep hk4);have HK4:=Lib.hid (HK1.out.trans hk4 (by simp))
  have HQ4:=Lib.hid (hk4.at HQ1.out (by simp));have HB4:=Lib.hid (hk4.at HB1.out (by simp))
  clear hk4 y0 y1 y2 y3 y4
  go_wp2_with fail
  refine (one_none HP4.out HO.out (by decide)).mono ?_
  rintro r w5 ⟨rfl,hk5⟩
  have HN5:=Lib.hid (HN4.out.keep0 hk5);have HP5:=Lib.hid (HP4.out.keep hk5);have HK5:=Lib.hid (HK4.out.trans hk5 (by simp))
  have HQ5:=Lib.hid (hk5.at HQ4.out (by simp));have HB5:=Lib.hid (hk5.at HB4.out (by simp))
  clear hk5

  have hq3:=HQ5.out
  have hb3:=HB5.out
  have hl3:w.heap.size<w5.heap.size:=h_lt hq3
  have hl4:w1.heap.size<w5.heap.size:=h_lt hb3
  have x0:=cell_of_heap hb3 0
  have x1:=cell_of_heap hb3 1
  have x2:=cell_of_heap hb3 2
  have x3:=cell_of_heap hb3 3
  have x4:=cell_of_heap hb3 4
  simp at x0 x1 x2 x3 x4
  have q0:=cell_of_heap hq3 0
  have qf0:=frozen_of_heap hq3 0
  have q1:=cell_of_heap hq3 1
  have qf1:=frozen_of_heap hq3 1
  have q2:=cell_of_heap hq3 2
  have qf2:=frozen_of_heap hq3 2
  have q3:=cell_of_heap hq3 3
  have qf3:=frozen_of_heap hq3 3
  have q4:=cell_of_heap hq3 4
  have qf4:=frozen_of_heap hq3 4
  simp at q0 q1 q2 q3 q4
  have n5:w.heap.size≠w1.heap.size:=Nat.ne_of_lt hsz
  have n6:w1.heap.size≠w.heap.size:=Nat.ne_of_gt hsz
  clear hb3 hq3
  go_wp2_with fail
  have t5:=nod5 w5 w.heap.size kd tx nm (.slice a l cap) re im
  refine bodyPost_ret (v:= .agg #[.int .i64 kd,.string tx,.float .f64 nm,.slice a l cap,.complex .f64 re im]) (by simp [results,Tryz.results264,go_sem,q0,q1,q2,q3,q4]) rfl ⟨_,rfl, ?_, ?_, ?_⟩
  · exact HN5.out.keep t5 (by simp) (fun x hx=>Nat.le_of_lt hx)
  · exact HP5.out.keepN t5 (by simp;omega) (by simp;omega)
  · exact HK5.out.trans t5 (by simp)

theorem expr_no{s:ByteArray}{p:Nat}{st st':PSt}{n:Node}(hsub:Hands s p st st' n 156)(hl:lval n=false):Hands s p st st' n 130:=by
  intro w h
  have hlt:=h_lt h.row
  have H:=Lib.hid h;have HS:=Lib.hid hsub;have HL:=Lib.hid hl
  clear h hsub hl
  go_enter Tryz.func130,Tryz.ntmps130
  go_wp2_with fail
  refine (HS.out _ (H.out.keep (Keeps.alloc [] w (nodC 0 ⟨#[]⟩ 0 (.slice none 0 0) 0 0)))).mono ?_
  rintro r w1 ⟨v,rfl,hn',hp1,hk1⟩
  have hn:NodeR w1 (fun g=>w.heap.size<g) n v:=hn'.keep (Keeps.refl [] w1) (by simp) (fun x hx=>by have h2:=hx;simp at h2;omega)
  clear hn'
  have hq1:=hk1.at (h_new w (nodC 0 ⟨#[]⟩ 0 (.slice none 0 0) 0 0)) (by simp;omega)
  have hkw:Keeps [p] w w1:=(Keeps.alloc [p] w _).trans hk1 (fun _ h=> .inl h)
  have hsz:w.heap.size<w1.heap.size:=by have:=hk1.size;simp at this;omega
  have h14:=hp1.p
  obtain ⟨tx,nm,a,l,cap,re,im,rfl,-,-⟩:=hn.shape
  generalize hkd:n.kind=kd at*
  have hka:=Keeps.alloc [] w1 (nodC kd tx nm (.slice a l cap) re im)
  have HN1:=Lib.hid (hn.keep0 hka);have HP1:=Lib.hid (hp1.keep hka);have HK1:=Lib.hid (hkw.trans hka (by simp))
  have HQ1:=Lib.hid (hka.at hq1 (by simp));have HB1:=Lib.hid (h_new w1 (nodC kd tx nm (.slice a l cap) re im))
  clear hn hp1 hkw hk1 hq1 hka
  go_wp2_with fail
  generalize w1.alloc (nodC kd tx nm (.slice a l cap) re im)=w2 at*
  have hb2:w1.heap.size<w2.heap.size:=h_lt HB1.out
  have y0:=cell_of_heap HB1.out 0
  have y1:=cell_of_heap HB1.out 1
  have y2:=cell_of_heap HB1.out 2
  have y3:=cell_of_heap HB1.out 3
  have y4:=cell_of_heap HB1.out 4
  simp at y0 y1 y2 y3 y4

  refine (ok_any HP1.out).mono ?_
  rintro r w' ⟨rfl,hw'⟩
  rw [hw']
  clear hw'
  go_wp2_with fail
  refine (lvalue_any HN1.out).mono ?_
  rintro r w4 ⟨rfl,hk4⟩
  rw [HL.out]
  have HN4:=Lib.hid (HN1.out.keep0 hk4);have HP4:=Lib.hid (HP1.out.keep hk4);have HK4:=Lib.hid (HK1.out.trans hk4 (by simp))
  have HQ4:=Lib.hid (hk4.at HQ1.out (by simp));have HB4:=Lib.hid (hk4.at HB1.out (by simp))
  clear hk4 y0 y1 y2 y3 y4
  have hq3:=HQ4.out
  have hb3:=HB4.out
  have hl3:w.heap.size<w4.heap.size:=h_lt hq3
  have hl4:w1.heap.size<w4.heap.size:=h_lt hb3
  have x0:=cell_of_heap hb3 0
  have x1:=cell_of_heap hb3 1
  have x2:=cell_of_heap hb3 2
  have x3:=cell_of_heap hb3 3
  have x4:=cell_of_heap hb3 4
  simp at x0 x1 x2 x3 x4
  have q0:=cell_of_heap hq3 0
  have qf0:=frozen_of_heap hq3 0
  have q1:=cell_of_heap hq3 1
  have qf1:=frozen_of_heap hq3 1
  have q2:=cell_of_heap hq3 2
  have qf2:=frozen_of_heap hq3 2
  have q3:=cell_of_heap hq3 3
  have qf3:=frozen_of_heap hq3 3
  have q4:=cell_of_heap hq3 4
  have qf4:=frozen_of_heap hq3 4
  simp at q0 q1 q2 q3 q4
  have n5:w.heap.size≠w1.heap.size:=Nat.ne_of_lt hsz
  have n6:w1.heap.size≠w.heap.size:=Nat.ne_of_gt hsz
  clear hb3 hq3
  go_wp2_with fail
  have t5:=nod5 w4 w.heap.size kd tx nm (.slice a l cap) re im
  refine bodyPost_ret (v:= .agg #[.int .i64 kd,.string tx,.float .f64 nm,.slice a l cap,.complex .f64 re im]) (by simp [results,Tryz.results130,go_sem,q0,q1,q2,q3,q4]) rfl ⟨_,rfl, ?_, ?_, ?_⟩
  · exact HN4.out.keep t5 (by simp) (fun x hx=>Nat.le_of_lt hx)
  · exact HP4.out.keepN t5 (by simp;omega) (by simp;omega)
  · exact HK4.out.trans t5 (by simp)

theorem expr_none{s:ByteArray}{p:Nat}{st st':PSt}{n:Node}(hsub:Hands s p st st' n 156)(hl:lval n=true)(ho:noneF s st' ⟨#[61,32,43,61,32,45,61,32,42,61,32,47,61,32,37,61,32,94,61]⟩=some ()):Hands s p st st' n 130:=by
  intro w h
  have hlt:=h_lt h.row
  have H:=Lib.hid h;have HS:=Lib.hid hsub;have HL:=Lib.hid hl
  have HO:=Lib.hid ho
  clear h hsub hl ho
  go_enter Tryz.func130,Tryz.ntmps130
  go_wp2_with fail
  refine (HS.out _ (H.out.keep (Keeps.alloc [] w (nodC 0 ⟨#[]⟩ 0 (.slice none 0 0) 0 0)))).mono ?_
  rintro r w1 ⟨v,rfl,hn',hp1,hk1⟩
  have hn:NodeR w1 (fun g=>w.heap.size<g) n v:=hn'.keep (Keeps.refl [] w1) (by simp) (fun x hx=>by have h2:=hx;simp at h2;omega)
  clear hn'
  have hq1:=hk1.at (h_new w (nodC 0 ⟨#[]⟩ 0 (.slice none 0 0) 0 0)) (by simp;omega)
  have hkw:Keeps [p] w w1:=(Keeps.alloc [p] w _).trans hk1 (fun _ h=> .inl h)
  have hsz:w.heap.size<w1.heap.size:=by have:=hk1.size;simp at this;omega
  have h14:=hp1.p
  obtain ⟨tx,nm,a,l,cap,re,im,rfl,-,-⟩:=hn.shape
  generalize hkd:n.kind=kd at*
  have hka:=Keeps.alloc [] w1 (nodC kd tx nm (.slice a l cap) re im)
  have HN1:=Lib.hid (hn.keep0 hka);have HP1:=Lib.hid (hp1.keep hka);have HK1:=Lib.hid (hkw.trans hka (by simp))
  have HQ1:=Lib.hid (hka.at hq1 (by simp));have HB1:=Lib.hid (h_new w1 (nodC kd tx nm (.slice a l cap) re im))
  clear hn hp1 hkw hk1 hq1 hka
  go_wp2_with fail
  generalize w1.alloc (nodC kd tx nm (.slice a l cap) re im)=w2 at*
  have hb2:w1.heap.size<w2.heap.size:=h_lt HB1.out
  have y0:=cell_of_heap HB1.out 0
  have y1:=cell_of_heap HB1.out 1
  have y2:=cell_of_heap HB1.out 2
  have y3:=cell_of_heap HB1.out 3
  have y4:=cell_of_heap HB1.out 4
  simp at y0 y1 y2 y3 y4

  refine (ok_any HP1.out).mono ?_
  rintro r w' ⟨rfl,hw'⟩
  rw [hw']
  clear hw'
  go_wp2_with fail
  refine (lvalue_any HN1.out).mono ?_
  rintro r w4 ⟨rfl,hk4⟩
  rw [HL.out]
  have HN4:=Lib.hid (HN1.out.keep0 hk4);have HP4:=Lib.hid (HP1.out.keep hk4);have HK4:=Lib.hid (HK1.out.trans hk4 (by simp))
  have HQ4:=Lib.hid (hk4.at HQ1.out (by simp));have HB4:=Lib.hid (hk4.at HB1.out (by simp))
  clear hk4 y0 y1 y2 y3 y4
  go_wp2_with fail
  refine (one_none HP4.out HO.out (by decide)).mono ?_
  rintro r w5 ⟨rfl,hk5⟩
  have HN5:=Lib.hid (HN4.out.keep0 hk5);have HP5:=Lib.hid (HP4.out.keep hk5);have HK5:=Lib.hid (HK4.out.trans hk5 (by simp))
  have HQ5:=Lib.hid (hk5.at HQ4.out (by simp));have HB5:=Lib.hid (hk5.at HB4.out (by simp))
  clear hk5

  have hq3:=HQ5.out
  have hb3:=HB5.out
  have hl3:w.heap.size<w5.heap.size:=h_lt hq3
  have hl4:w1.heap.size<w5.heap.size:=h_lt hb3
  have x0:=cell_of_heap hb3 0
  have x1:=cell_of_heap hb3 1
  have x2:=cell_of_heap hb3 2
  have x3:=cell_of_heap hb3 3
  have x4:=cell_of_heap hb3 4
  simp at x0 x1 x2 x3 x4
  have q0:=cell_of_heap hq3 0
  have qf0:=frozen_of_heap hq3 0
  have q1:=cell_of_heap hq3 1
  have qf1:=frozen_of_heap hq3 1
  have q2:=cell_of_heap hq3 2
  have qf2:=frozen_of_heap hq3 2
  have q3:=cell_of_heap hq3 3
  have qf3:=frozen_of_heap hq3 3
  have q4:=cell_of_heap hq3 4
  have qf4:=frozen_of_heap hq3 4
  simp at q0 q1 q2 q3 q4
  have n5:w.heap.size≠w1.heap.size:=Nat.ne_of_lt hsz
  have n6:w1.heap.size≠w.heap.size:=Nat.ne_of_gt hsz
  clear hb3 hq3
  go_wp2_with fail
  have t5:=nod5 w5 w.heap.size kd tx nm (.slice a l cap) re im
  refine bodyPost_ret (v:= .agg #[.int .i64 kd,.string tx,.float .f64 nm,.slice a l cap,.complex .f64 re im]) (by simp [results,Tryz.results130,go_sem,q0,q1,q2,q3,q4]) rfl ⟨_,rfl, ?_, ?_, ?_⟩
  · exact HN5.out.keep t5 (by simp) (fun x hx=>Nat.le_of_lt hx)
  · exact HP5.out.keepN t5 (by simp;omega) (by simp;omega)
  · exact HK5.out.trans t5 (by simp)
end Go.Proofs.YteafcepaolofpaaGreatDoor
end
