/- Next, walked: texts, numbers, signs. Made by a program (mkF.py). -/
import Derived.Test.YteafcepaolofpaaGreatDoorTokF
set_option maxRecDepth 100000
set_option maxHeartbeats 4000000
set_option linter.unusedSimpArgs false
set_option linter.unusedVariables false
set_option linter.unusedSectionVars false
namespace Go.Proofs.YteafcepaolofpaaGreatDoor
open Go.RowKit


set_option maxRecDepth 1000000 in
theorem next_text_z{w:World}(hG:Gl w){s:ByteArray}{a:Nat}{op:Bool}{e:Nat}
    (hsa:∀W,Calls Tryz.prog 112 #[.string s,.int .i64 0] W fun e w'=>e= .returned (.int .i64 a)∧w'=W) (hs:s.size≤100000) (h3:a<s.size) (hz:((s[a]'h3).toNat:Int)=34) (hce:closesF s 34 (s.size+1) (a+1)=some e) (hpl:plainF (s.extract (a+1) e)=true):
    Calls Tryz.prog 77 #[.string s,.int .i64 0,.bool op] w fun r w'=>r= .returned (.tuple #[tokV ⟨3,s.extract (a+1) e,0,a,e+1⟩,.int .i64 0])∧Keeps [] w w':=by
  have HSA:=Lib.hid hsa;have HG:=Lib.hid hG
  clear hsa hG
  have hl:letterF 34=false:=by decide
  have hale:a≤s.size:=by omega
  obtain ⟨le1,le2⟩:=closesF_lt hce
  have hcl2:=fun W=>closes_any h3 (e:=e) (f:=s.size+1) (by rw [hz];exact hce) (by omega) W
  have htd:=fun W=>told_any hpl (by rw [ByteArray.size_extract];omega) W
  have HCA:=Lib.hid hcl2;have HTD:=Lib.hid htd
  clear hce hcl2 htd hpl
  go_enter Tryz.func77,Tryz.ntmps77
  go_wp2_with fail
  refine (HSA.out _).mono ?_
  rintro r w1 ⟨rfl,rfl⟩
  go_wp2_with ((with_reducible show wpList _ _ _ (Oper.mk none (.store 109 _ _) _ _ _ _::_) _ _);refine stT 109 (w.heap.size+1) 0 _ (show _=some (tokC 0 ⟨#[]⟩ 0 0 0) from (by have:=h_new (w.alloc (tokC 0 ⟨#[]⟩ 0 0 0)) (tokC 0 ⟨#[]⟩ 0 0 0);simpa using this)) rfl (.agg #[.int .i64 0,.string ⟨#[]⟩,.float .f64 0,.int .i64 a,.int .i64 a]) rfl (by kernel_rfl) (by simp [Value.cells]) (by simp [Value.cells,Value.oneCell']) ?_)
  intro w2 hs2
  have hr2:=hs2.row
  have hz2:=hs2.size
  simp at hr2 hz2
  have hk2:Keeps [] w w2:=((Keeps.alloc [] w (tokC 0 ⟨#[]⟩ 0 0 0)).trans (Keeps.alloc [] _ (tokC 0 ⟨#[]⟩ 0 0 0)) (by simp)).trans hs2.keeps (by simp)
  have hq2:=hs2.at (h_alloc (o:=tokC 0 ⟨#[]⟩ 0 0 0) (h_new w (tokC 0 ⟨#[]⟩ 0 0 0))) (by omega)
  have HR2:=Lib.hid hr2;have HK2:=Lib.hid hk2;have HQ2:=Lib.hid hq2
  clear hs2 hr2 hk2 hq2
  go_wp2_with ((with_reducible show wpList _ _ _ (Oper.mk none (.store 109 _ _) _ _ _ _::_) _ _);refine stT 109 (w.heap.size+2) 0 _ (show _=some (tokC 0 ⟨#[]⟩ 0 0 0) from (by have:=h_new w2 (tokC 0 ⟨#[]⟩ 0 0 0);rw [hz2] at this;exact this)) (by first|rfl|simp [hz2]) (.agg #[.int .i64 0,.string ⟨#[]⟩,.float .f64 0,.int .i64 a,.int .i64 0]) rfl (by kernel_rfl) (by simp [Value.cells]) (by simp [Value.cells,Value.oneCell']) ?_)
  intro w3 hs3
  have hq3:=hs3.at (h_alloc (o:=tokC 0 ⟨#[]⟩ 0 0 0) HQ2.out) (by omega)
  have hr3:=hs3.at (h_alloc (o:=tokC 0 ⟨#[]⟩ 0 0 0) HR2.out) (by omega)
  have hk3:Keeps [] w w3:=(HK2.out.trans (Keeps.alloc [] w2 (tokC 0 ⟨#[]⟩ 0 0 0)) (by simp)).trans hs3.keeps (by simp)
  clear hs3 hz2 HR2 HK2 HQ2
  have HG3:=Lib.hid (HG.out.keep hk3 (by simp))
  have HQ3:=Lib.hid hq3;have HR3:=Lib.hid hr3;have HK3:=Lib.hid hk3
  clear hq3 hr3 hk3 HSA HG
  generalize hRR:w.heap.size=R at*
  have HRW:Hid (w.heap.size=R):=Lib.hid hRR
  clear hRR
  go_wp2_with fail
  refine (letter_any 34 _).mono ?_
  rintro r w' ⟨rfl,hw'⟩
  rw [hw']
  clear hw'
  rw [hl]
  go_wp2_with fail
  refine (HCA.out _).mono ?_
  rintro r w' ⟨rfl,n,hw'⟩
  rw [hw']
  clear hw'
  have hk5:Keeps [] w3 (w3.drewN n):=Keeps.drewN [] w3 n
  have HR5:=Lib.hid (hk5.at HR3.out (by simp));have HQ5:=Lib.hid (hk5.at HQ3.out (by simp));have HK5:=Lib.hid (HK3.out.trans hk5 (by simp))
  clear hk5
  generalize w3.drewN n=w5 at*
  have d0:=cell_of_heap HR5.out 0
  have df0:=frozen_of_heap HR5.out 0
  have d1:=cell_of_heap HR5.out 1
  have df1:=frozen_of_heap HR5.out 1
  have d2:=cell_of_heap HR5.out 2
  have df2:=frozen_of_heap HR5.out 2
  have d3:=cell_of_heap HR5.out 3
  have df3:=frozen_of_heap HR5.out 3
  have d4:=cell_of_heap HR5.out 4
  have df4:=frozen_of_heap HR5.out 4
  simp at d0 d1 d2 d3 d4

  go_wp2_with fail
  have HR6:Hid ((w5.setCell ⟨R+1,4,none⟩ (.int .i64 ((e:Int)+1))).heap[R+1]? =some (tokC 0 ⟨#[]⟩ 0 a ((e:Int)+1))):=Lib.hid (by have:=h_set_eq (i:=4) (u:= .int .i64 ((e:Int)+1)) HR5.out;simpa using this)
  have HQ6:Hid ((w5.setCell ⟨R+1,4,none⟩ (.int .i64 ((e:Int)+1))).heap[R]? =some (tokC 0 ⟨#[]⟩ 0 0 0)):=Lib.hid (h_set_ne (by simp) HQ5.out)
  have HK6:Hid (Keeps [] w (w5.setCell ⟨R+1,4,none⟩ (.int .i64 ((e:Int)+1)))):=Lib.hid (Keeps.trans HK5.out (fp':= [R+1]) (Keeps.setCell _ _ _ _ (by simp)) (by simp [HRW.out]))
  generalize (w5.setCell ⟨R+1,4,none⟩ (.int .i64 ((e:Int)+1)))=w6 at*
  refine (HTD.out _).mono ?_
  rintro r w7 ⟨rfl,hk7⟩
  have HR7:=Lib.hid (hk7.at HR6.out (by simp));have HQ7:=Lib.hid (hk7.at HQ6.out (by simp));have HK7:=Lib.hid (HK6.out.trans hk7 (by simp))
  clear hk7 d0 d1 d2 d3 d4
  have e0:=cell_of_heap HR7.out 0
  have ef0:=frozen_of_heap HR7.out 0
  have e1:=cell_of_heap HR7.out 1
  have ef1:=frozen_of_heap HR7.out 1
  have e2:=cell_of_heap HR7.out 2
  have ef2:=frozen_of_heap HR7.out 2
  have e3:=cell_of_heap HR7.out 3
  have ef3:=frozen_of_heap HR7.out 3
  have e4:=cell_of_heap HR7.out 4
  have ef4:=frozen_of_heap HR7.out 4
  simp at e0 e1 e2 e3 e4

  go_wp2_with ((with_reducible show wpList _ _ _ (Oper.mk none (.store 109 _ _) _ _ _ _::_) _ _);refine stT 109 R 0 _ (h_set_ne (by simp) (h_set_ne (by simp) HQ7.out)) rfl (.agg #[.int .i64 3,.string (s.extract (a+1) e),.float .f64 0,.int .i64 a,.int .i64 ((e:Int)+1)]) rfl (by kernel_rfl) (by simp [Value.cells]) (by simp [Value.cells,Value.oneCell']) ?_)
  intro w9 hs9
  have x0:=cell_of_heap hs9.row 0
  have x1:=cell_of_heap hs9.row 1
  have x2:=cell_of_heap hs9.row 2
  have x3:=cell_of_heap hs9.row 3
  have x4:=cell_of_heap hs9.row 4
  simp at x0 x1 x2 x3 x4
  have hk9:Keeps [] w w9:=Keeps.trans (Keeps.trans (Keeps.trans HK7.out (fp':= [R+1]) (Keeps.setCell _ _ _ _ (by simp)) (by simp [HRW.out])) (fp':= [R+1]) (Keeps.setCell _ _ _ _ (by simp)) (by simp [HRW.out])) hs9.keeps (by simp [HRW.out])
  clear hs9
  go_wp2_with fail
  exact bodyPost_ret (v:= .tuple #[.agg #[.int .i64 3,.string (s.extract (a+1) e),.float .f64 0,.int .i64 a,.int .i64 ((e:Int)+1)],.int .i64 0]) (by simp [results,Tryz.results77,go_sem,x0,x1,x2,x3,x4]) rfl ⟨rfl,hk9⟩

set_option maxRecDepth 1000000 in
theorem next_text_p{w:World}(hG:Gl w){s:ByteArray}{i a:Nat}{op:Bool}{e:Nat}(hpos:0<i)(hi:i≤s.size)
    (hsa:∀W,Calls Tryz.prog 112 #[.string s,.int .i64 i] W fun e w'=>e= .returned (.int .i64 a)∧w'=W) (hs:s.size≤100000) (h3:a<s.size) (hz:((s[a]'h3).toNat:Int)=34) (hce:closesF s 34 (s.size+1) (a+1)=some e) (hpl:plainF (s.extract (a+1) e)=true):
    Calls Tryz.prog 77 #[.string s,.int .i64 i,.bool op] w fun r w'=>r= .returned (.tuple #[tokV ⟨3,s.extract (a+1) e,0,a,e+1⟩,.int .i64 0])∧Keeps [] w w':=by
  have HSA:=Lib.hid hsa;have HG:=Lib.hid hG
  clear hsa hG
  have hl:letterF 34=false:=by decide
  have hale:a≤s.size:=by omega
  obtain ⟨le1,le2⟩:=closesF_lt hce
  have hcl2:=fun W=>closes_any h3 (e:=e) (f:=s.size+1) (by rw [hz];exact hce) (by omega) W
  have htd:=fun W=>told_any hpl (by rw [ByteArray.size_extract];omega) W
  have HCA:=Lib.hid hcl2;have HTD:=Lib.hid htd
  clear hce hcl2 htd hpl
  go_enter Tryz.func77,Tryz.ntmps77
  go_wp2_with fail
  refine (HSA.out _).mono ?_
  rintro r w1 ⟨rfl,rfl⟩
  go_wp2_with ((with_reducible show wpList _ _ _ (Oper.mk none (.store 109 _ _) _ _ _ _::_) _ _);refine stT 109 (w.heap.size+1) 0 _ (show _=some (tokC 0 ⟨#[]⟩ 0 0 0) from (by have:=h_new (w.alloc (tokC 0 ⟨#[]⟩ 0 0 0)) (tokC 0 ⟨#[]⟩ 0 0 0);simpa using this)) rfl (.agg #[.int .i64 0,.string ⟨#[]⟩,.float .f64 0,.int .i64 a,.int .i64 a]) rfl (by kernel_rfl) (by simp [Value.cells]) (by simp [Value.cells,Value.oneCell']) ?_)
  intro w2 hs2
  have hr2:=hs2.row
  have hz2:=hs2.size
  simp at hr2 hz2
  have hk2:Keeps [] w w2:=((Keeps.alloc [] w (tokC 0 ⟨#[]⟩ 0 0 0)).trans (Keeps.alloc [] _ (tokC 0 ⟨#[]⟩ 0 0 0)) (by simp)).trans hs2.keeps (by simp)
  have hq2:=hs2.at (h_alloc (o:=tokC 0 ⟨#[]⟩ 0 0 0) (h_new w (tokC 0 ⟨#[]⟩ 0 0 0))) (by omega)
  have HR2:=Lib.hid hr2;have HK2:=Lib.hid hk2;have HQ2:=Lib.hid hq2
  clear hs2 hr2 hk2 hq2
  go_wp2_with ((with_reducible show wpList _ _ _ (Oper.mk none (.store 109 _ _) _ _ _ _::_) _ _);refine stT 109 (w.heap.size+2) 0 _ (show _=some (tokC 0 ⟨#[]⟩ 0 0 0) from (by have:=h_new w2 (tokC 0 ⟨#[]⟩ 0 0 0);rw [hz2] at this;exact this)) (by first|rfl|simp [hz2]) (.agg #[.int .i64 0,.string ⟨#[]⟩,.float .f64 0,.int .i64 a,.int .i64 0]) rfl (by kernel_rfl) (by simp [Value.cells]) (by simp [Value.cells,Value.oneCell']) ?_)
  intro w3 hs3
  have hq3:=hs3.at (h_alloc (o:=tokC 0 ⟨#[]⟩ 0 0 0) HQ2.out) (by omega)
  have hr3:=hs3.at (h_alloc (o:=tokC 0 ⟨#[]⟩ 0 0 0) HR2.out) (by omega)
  have hk3:Keeps [] w w3:=(HK2.out.trans (Keeps.alloc [] w2 (tokC 0 ⟨#[]⟩ 0 0 0)) (by simp)).trans hs3.keeps (by simp)
  clear hs3 hz2 HR2 HK2 HQ2
  have HG3:=Lib.hid (HG.out.keep hk3 (by simp))
  have HQ3:=Lib.hid hq3;have HR3:=Lib.hid hr3;have HK3:=Lib.hid hk3
  clear hq3 hr3 hk3 HSA HG
  generalize hRR:w.heap.size=R at*
  have HRW:Hid (w.heap.size=R):=Lib.hid hRR
  clear hRR
  go_wp2_with fail
  refine (letter_any 34 _).mono ?_
  rintro r w' ⟨rfl,hw'⟩
  rw [hw']
  clear hw'
  rw [hl]
  go_wp2_with fail
  refine (HCA.out _).mono ?_
  rintro r w' ⟨rfl,n,hw'⟩
  rw [hw']
  clear hw'
  have hk5:Keeps [] w3 (w3.drewN n):=Keeps.drewN [] w3 n
  have HR5:=Lib.hid (hk5.at HR3.out (by simp));have HQ5:=Lib.hid (hk5.at HQ3.out (by simp));have HK5:=Lib.hid (HK3.out.trans hk5 (by simp))
  clear hk5
  generalize w3.drewN n=w5 at*
  have d0:=cell_of_heap HR5.out 0
  have df0:=frozen_of_heap HR5.out 0
  have d1:=cell_of_heap HR5.out 1
  have df1:=frozen_of_heap HR5.out 1
  have d2:=cell_of_heap HR5.out 2
  have df2:=frozen_of_heap HR5.out 2
  have d3:=cell_of_heap HR5.out 3
  have df3:=frozen_of_heap HR5.out 3
  have d4:=cell_of_heap HR5.out 4
  have df4:=frozen_of_heap HR5.out 4
  simp at d0 d1 d2 d3 d4

  go_wp2_with fail
  have HR6:Hid ((w5.setCell ⟨R+1,4,none⟩ (.int .i64 ((e:Int)+1))).heap[R+1]? =some (tokC 0 ⟨#[]⟩ 0 a ((e:Int)+1))):=Lib.hid (by have:=h_set_eq (i:=4) (u:= .int .i64 ((e:Int)+1)) HR5.out;simpa using this)
  have HQ6:Hid ((w5.setCell ⟨R+1,4,none⟩ (.int .i64 ((e:Int)+1))).heap[R]? =some (tokC 0 ⟨#[]⟩ 0 0 0)):=Lib.hid (h_set_ne (by simp) HQ5.out)
  have HK6:Hid (Keeps [] w (w5.setCell ⟨R+1,4,none⟩ (.int .i64 ((e:Int)+1)))):=Lib.hid (Keeps.trans HK5.out (fp':= [R+1]) (Keeps.setCell _ _ _ _ (by simp)) (by simp [HRW.out]))
  generalize (w5.setCell ⟨R+1,4,none⟩ (.int .i64 ((e:Int)+1)))=w6 at*
  refine (HTD.out _).mono ?_
  rintro r w7 ⟨rfl,hk7⟩
  have HR7:=Lib.hid (hk7.at HR6.out (by simp));have HQ7:=Lib.hid (hk7.at HQ6.out (by simp));have HK7:=Lib.hid (HK6.out.trans hk7 (by simp))
  clear hk7 d0 d1 d2 d3 d4
  have e0:=cell_of_heap HR7.out 0
  have ef0:=frozen_of_heap HR7.out 0
  have e1:=cell_of_heap HR7.out 1
  have ef1:=frozen_of_heap HR7.out 1
  have e2:=cell_of_heap HR7.out 2
  have ef2:=frozen_of_heap HR7.out 2
  have e3:=cell_of_heap HR7.out 3
  have ef3:=frozen_of_heap HR7.out 3
  have e4:=cell_of_heap HR7.out 4
  have ef4:=frozen_of_heap HR7.out 4
  simp at e0 e1 e2 e3 e4

  go_wp2_with ((with_reducible show wpList _ _ _ (Oper.mk none (.store 109 _ _) _ _ _ _::_) _ _);refine stT 109 R 0 _ (h_set_ne (by simp) (h_set_ne (by simp) HQ7.out)) rfl (.agg #[.int .i64 3,.string (s.extract (a+1) e),.float .f64 0,.int .i64 a,.int .i64 ((e:Int)+1)]) rfl (by kernel_rfl) (by simp [Value.cells]) (by simp [Value.cells,Value.oneCell']) ?_)
  intro w9 hs9
  have x0:=cell_of_heap hs9.row 0
  have x1:=cell_of_heap hs9.row 1
  have x2:=cell_of_heap hs9.row 2
  have x3:=cell_of_heap hs9.row 3
  have x4:=cell_of_heap hs9.row 4
  simp at x0 x1 x2 x3 x4
  have hk9:Keeps [] w w9:=Keeps.trans (Keeps.trans (Keeps.trans HK7.out (fp':= [R+1]) (Keeps.setCell _ _ _ _ (by simp)) (by simp [HRW.out])) (fp':= [R+1]) (Keeps.setCell _ _ _ _ (by simp)) (by simp [HRW.out])) hs9.keeps (by simp [HRW.out])
  clear hs9
  go_wp2_with fail
  exact bodyPost_ret (v:= .tuple #[.agg #[.int .i64 3,.string (s.extract (a+1) e),.float .f64 0,.int .i64 a,.int .i64 ((e:Int)+1)],.int .i64 0]) (by simp [results,Tryz.results77,go_sem,x0,x1,x2,x3,x4]) rfl ⟨rfl,hk9⟩

set_option maxRecDepth 1000000 in
theorem next_numn_z{w:World}(hG:Gl w){s:ByteArray}{a:Nat}{op:Bool}{c:Int}
    (hsa:∀W,Calls Tryz.prog 112 #[.string s,.int .i64 0] W fun e w'=>e= .returned (.int .i64 a)∧w'=W) (hs:s.size≤100000) (h3:a<s.size) (hz:((s[a]'h3).toNat:Int)=c) (h10:¬c=10) (hl:letterF c=false) (h34:¬c=34) (h47:¬c=47) (hnu:numeralF s a=some (a+1)) (hcc:c=49∨c=50):
    Calls Tryz.prog 77 #[.string s,.int .i64 0,.bool op] w fun r w'=>r= .returned (.tuple #[tokV ⟨2,s.extract a (a+1),flt (c -48).toNat,a,a+1⟩,.int .i64 0])∧Keeps [] w w':=by
  have HSA:=Lib.hid hsa;have HG:=Lib.hid hG
  clear hsa hG
  have n10:(c==10)=false:=beq_false_of_ne h10
  have n34:(c==34)=false:=beq_false_of_ne h34
  have hale:a≤s.size:=by omega
  have n47:(c==47)=false:=beq_false_of_ne h47
  clear h47
  have hna:=fun W=>numeral_any hnu hale (by omega) W
  have hx1:(s.extract a (a+1)).size=1:=by rw [ByteArray.size_extract];omega
  have hx0:0<(s.extract a (a+1)).size:=by omega
  have hpf:=fun W (hG:Gl W)=>parseFloat_any hG hx1 hx0 (z:=c) (by rw [extract_one h3 hx0];exact hz) hcc
  have hgt:=gtF hcc
  have HPF:=Lib.hid hpf;have HNU:=Lib.hid hna
  clear hpf hx1 hx0 hcc hna hnu
  clear h10 h34
  go_enter Tryz.func77,Tryz.ntmps77
  go_wp2_with fail
  refine (HSA.out _).mono ?_
  rintro r w1 ⟨rfl,rfl⟩
  go_wp2_with ((with_reducible show wpList _ _ _ (Oper.mk none (.store 109 _ _) _ _ _ _::_) _ _);refine stT 109 (w.heap.size+1) 0 _ (show _=some (tokC 0 ⟨#[]⟩ 0 0 0) from (by have:=h_new (w.alloc (tokC 0 ⟨#[]⟩ 0 0 0)) (tokC 0 ⟨#[]⟩ 0 0 0);simpa using this)) rfl (.agg #[.int .i64 0,.string ⟨#[]⟩,.float .f64 0,.int .i64 a,.int .i64 a]) rfl (by kernel_rfl) (by simp [Value.cells]) (by simp [Value.cells,Value.oneCell']) ?_)
  intro w2 hs2
  have hr2:=hs2.row
  have hz2:=hs2.size
  simp at hr2 hz2
  have hk2:Keeps [] w w2:=((Keeps.alloc [] w (tokC 0 ⟨#[]⟩ 0 0 0)).trans (Keeps.alloc [] _ (tokC 0 ⟨#[]⟩ 0 0 0)) (by simp)).trans hs2.keeps (by simp)
  have hq2:=hs2.at (h_alloc (o:=tokC 0 ⟨#[]⟩ 0 0 0) (h_new w (tokC 0 ⟨#[]⟩ 0 0 0))) (by omega)
  have HR2:=Lib.hid hr2;have HK2:=Lib.hid hk2;have HQ2:=Lib.hid hq2
  clear hs2 hr2 hk2 hq2
  go_wp2_with ((with_reducible show wpList _ _ _ (Oper.mk none (.store 109 _ _) _ _ _ _::_) _ _);refine stT 109 (w.heap.size+2) 0 _ (show _=some (tokC 0 ⟨#[]⟩ 0 0 0) from (by have:=h_new w2 (tokC 0 ⟨#[]⟩ 0 0 0);rw [hz2] at this;exact this)) (by first|rfl|simp [hz2]) (.agg #[.int .i64 0,.string ⟨#[]⟩,.float .f64 0,.int .i64 a,.int .i64 0]) rfl (by kernel_rfl) (by simp [Value.cells]) (by simp [Value.cells,Value.oneCell']) ?_)
  intro w3 hs3
  have hq3:=hs3.at (h_alloc (o:=tokC 0 ⟨#[]⟩ 0 0 0) HQ2.out) (by omega)
  have hr3:=hs3.at (h_alloc (o:=tokC 0 ⟨#[]⟩ 0 0 0) HR2.out) (by omega)
  have hk3:Keeps [] w w3:=(HK2.out.trans (Keeps.alloc [] w2 (tokC 0 ⟨#[]⟩ 0 0 0)) (by simp)).trans hs3.keeps (by simp)
  clear hs3 hz2 HR2 HK2 HQ2
  have HG3:=Lib.hid (HG.out.keep hk3 (by simp))
  have HQ3:=Lib.hid hq3;have HR3:=Lib.hid hr3;have HK3:=Lib.hid hk3
  clear hq3 hr3 hk3 HSA HG
  generalize hRR:w.heap.size=R at*
  have HRW:Hid (w.heap.size=R):=Lib.hid hRR
  clear hRR
  go_wp2_with fail
  refine (letter_any c _).mono ?_
  rintro r w' ⟨rfl,hw'⟩
  rw [hw']
  clear hw'
  rw [hl]
  go_wp2_with fail
  refine (HNU.out _).mono ?_
  rintro r w' ⟨rfl,hw'⟩
  rw [hw']
  clear hw'
  go_wp2_with fail
  refine (HPF.out _ HG3.out).mono ?_
  rintro r w' ⟨rfl,hw'⟩
  rw [hw']
  clear hw'
  go_wp2_with ((with_reducible show wpList _ _ _ (Oper.mk none (.store 109 _ _) _ _ _ _::_) _ _);refine stT 109 R 0 _ HQ3.out rfl (.agg #[.int .i64 2,.string (s.extract a (a+1)),.float .f64 (flt (c -48).toNat),.int .i64 a,.int .i64 ((a:Int)+1)]) rfl (by kernel_rfl) (by simp [Value.cells]) (by simp [Value.cells,Value.oneCell']) ?_)
  intro w9 hs9
  have x0:=cell_of_heap hs9.row 0
  have x1:=cell_of_heap hs9.row 1
  have x2:=cell_of_heap hs9.row 2
  have x3:=cell_of_heap hs9.row 3
  have x4:=cell_of_heap hs9.row 4
  simp at x0 x1 x2 x3 x4
  have hk9:Keeps [] w w9:=Keeps.trans HK3.out hs9.keeps (by simp [HRW.out])
  clear hs9
  go_wp2_with fail
  exact bodyPost_ret (v:= .tuple #[.agg #[.int .i64 2,.string (s.extract a (a+1)),.float .f64 (flt (c -48).toNat),.int .i64 a,.int .i64 ((a:Int)+1)],.int .i64 0]) (by simp [results,Tryz.results77,go_sem,x0,x1,x2,x3,x4]) rfl ⟨rfl,hk9⟩

set_option maxRecDepth 1000000 in
theorem next_numn_p{w:World}(hG:Gl w){s:ByteArray}{i a:Nat}{op:Bool}{c:Int}(hpos:0<i)(hi:i≤s.size)
    (hsa:∀W,Calls Tryz.prog 112 #[.string s,.int .i64 i] W fun e w'=>e= .returned (.int .i64 a)∧w'=W) (hs:s.size≤100000) (h3:a<s.size) (hz:((s[a]'h3).toNat:Int)=c) (h10:¬c=10) (hl:letterF c=false) (h34:¬c=34) (h47:¬c=47) (hnu:numeralF s a=some (a+1)) (hcc:c=49∨c=50):
    Calls Tryz.prog 77 #[.string s,.int .i64 i,.bool op] w fun r w'=>r= .returned (.tuple #[tokV ⟨2,s.extract a (a+1),flt (c -48).toNat,a,a+1⟩,.int .i64 0])∧Keeps [] w w':=by
  have HSA:=Lib.hid hsa;have HG:=Lib.hid hG
  clear hsa hG
  have n10:(c==10)=false:=beq_false_of_ne h10
  have n34:(c==34)=false:=beq_false_of_ne h34
  have hale:a≤s.size:=by omega
  have n47:(c==47)=false:=beq_false_of_ne h47
  clear h47
  have hna:=fun W=>numeral_any hnu hale (by omega) W
  have hx1:(s.extract a (a+1)).size=1:=by rw [ByteArray.size_extract];omega
  have hx0:0<(s.extract a (a+1)).size:=by omega
  have hpf:=fun W (hG:Gl W)=>parseFloat_any hG hx1 hx0 (z:=c) (by rw [extract_one h3 hx0];exact hz) hcc
  have hgt:=gtF hcc
  have HPF:=Lib.hid hpf;have HNU:=Lib.hid hna
  clear hpf hx1 hx0 hcc hna hnu
  clear h10 h34
  go_enter Tryz.func77,Tryz.ntmps77
  go_wp2_with fail
  refine (HSA.out _).mono ?_
  rintro r w1 ⟨rfl,rfl⟩
  go_wp2_with ((with_reducible show wpList _ _ _ (Oper.mk none (.store 109 _ _) _ _ _ _::_) _ _);refine stT 109 (w.heap.size+1) 0 _ (show _=some (tokC 0 ⟨#[]⟩ 0 0 0) from (by have:=h_new (w.alloc (tokC 0 ⟨#[]⟩ 0 0 0)) (tokC 0 ⟨#[]⟩ 0 0 0);simpa using this)) rfl (.agg #[.int .i64 0,.string ⟨#[]⟩,.float .f64 0,.int .i64 a,.int .i64 a]) rfl (by kernel_rfl) (by simp [Value.cells]) (by simp [Value.cells,Value.oneCell']) ?_)
  intro w2 hs2
  have hr2:=hs2.row
  have hz2:=hs2.size
  simp at hr2 hz2
  have hk2:Keeps [] w w2:=((Keeps.alloc [] w (tokC 0 ⟨#[]⟩ 0 0 0)).trans (Keeps.alloc [] _ (tokC 0 ⟨#[]⟩ 0 0 0)) (by simp)).trans hs2.keeps (by simp)
  have hq2:=hs2.at (h_alloc (o:=tokC 0 ⟨#[]⟩ 0 0 0) (h_new w (tokC 0 ⟨#[]⟩ 0 0 0))) (by omega)
  have HR2:=Lib.hid hr2;have HK2:=Lib.hid hk2;have HQ2:=Lib.hid hq2
  clear hs2 hr2 hk2 hq2
  go_wp2_with ((with_reducible show wpList _ _ _ (Oper.mk none (.store 109 _ _) _ _ _ _::_) _ _);refine stT 109 (w.heap.size+2) 0 _ (show _=some (tokC 0 ⟨#[]⟩ 0 0 0) from (by have:=h_new w2 (tokC 0 ⟨#[]⟩ 0 0 0);rw [hz2] at this;exact this)) (by first|rfl|simp [hz2]) (.agg #[.int .i64 0,.string ⟨#[]⟩,.float .f64 0,.int .i64 a,.int .i64 0]) rfl (by kernel_rfl) (by simp [Value.cells]) (by simp [Value.cells,Value.oneCell']) ?_)
  intro w3 hs3
  have hq3:=hs3.at (h_alloc (o:=tokC 0 ⟨#[]⟩ 0 0 0) HQ2.out) (by omega)
  have hr3:=hs3.at (h_alloc (o:=tokC 0 ⟨#[]⟩ 0 0 0) HR2.out) (by omega)
  have hk3:Keeps [] w w3:=(HK2.out.trans (Keeps.alloc [] w2 (tokC 0 ⟨#[]⟩ 0 0 0)) (by simp)).trans hs3.keeps (by simp)
  clear hs3 hz2 HR2 HK2 HQ2
  have HG3:=Lib.hid (HG.out.keep hk3 (by simp))
  have HQ3:=Lib.hid hq3;have HR3:=Lib.hid hr3;have HK3:=Lib.hid hk3
  clear hq3 hr3 hk3 HSA HG
  generalize hRR:w.heap.size=R at*
  have HRW:Hid (w.heap.size=R):=Lib.hid hRR
  clear hRR
  go_wp2_with fail
  refine (letter_any c _).mono ?_
  rintro r w' ⟨rfl,hw'⟩
  rw [hw']
  clear hw'
  rw [hl]
  go_wp2_with fail
  refine (HNU.out _).mono ?_
  rintro r w' ⟨rfl,hw'⟩
  rw [hw']
  clear hw'
  go_wp2_with fail
  refine (HPF.out _ HG3.out).mono ?_
  rintro r w' ⟨rfl,hw'⟩
  rw [hw']
  clear hw'
  go_wp2_with ((with_reducible show wpList _ _ _ (Oper.mk none (.store 109 _ _) _ _ _ _::_) _ _);refine stT 109 R 0 _ HQ3.out rfl (.agg #[.int .i64 2,.string (s.extract a (a+1)),.float .f64 (flt (c -48).toNat),.int .i64 a,.int .i64 ((a:Int)+1)]) rfl (by kernel_rfl) (by simp [Value.cells]) (by simp [Value.cells,Value.oneCell']) ?_)
  intro w9 hs9
  have x0:=cell_of_heap hs9.row 0
  have x1:=cell_of_heap hs9.row 1
  have x2:=cell_of_heap hs9.row 2
  have x3:=cell_of_heap hs9.row 3
  have x4:=cell_of_heap hs9.row 4
  simp at x0 x1 x2 x3 x4
  have hk9:Keeps [] w w9:=Keeps.trans HK3.out hs9.keeps (by simp [HRW.out])
  clear hs9
  go_wp2_with fail
  exact bodyPost_ret (v:= .tuple #[.agg #[.int .i64 2,.string (s.extract a (a+1)),.float .f64 (flt (c -48).toNat),.int .i64 a,.int .i64 ((a:Int)+1)],.int .i64 0]) (by simp [results,Tryz.results77,go_sem,x0,x1,x2,x3,x4]) rfl ⟨rfl,hk9⟩

set_option maxRecDepth 1000000 in
theorem next_signn_z{w:World}(hG:Gl w){s:ByteArray}{a:Nat}{op:Bool}{c:Int}{x:ByteArray}
    (hsa:∀W,Calls Tryz.prog 112 #[.string s,.int .i64 0] W fun e w'=>e= .returned (.int .i64 a)∧w'=W) (hs:s.size≤100000) (h3:a<s.size) (hz:((s[a]'h3).toNat:Int)=c) (h10:¬c=10) (hl:letterF c=false) (h34:¬c=34) (h47:¬c=47) (hnu:numeralF s a=some a) (hsg:signF s a c=some x):
    Calls Tryz.prog 77 #[.string s,.int .i64 0,.bool op] w fun r w'=>r= .returned (.tuple #[tokV ⟨9,x,0,a,a+x.size⟩,.int .i64 0])∧Keeps [] w w':=by
  have HSA:=Lib.hid hsa;have HG:=Lib.hid hG
  clear hsa hG
  have n10:(c==10)=false:=beq_false_of_ne h10
  have n34:(c==34)=false:=beq_false_of_ne h34
  have hale:a≤s.size:=by omega
  have n47:(c==47)=false:=beq_false_of_ne h47
  clear h47
  have hna:=fun W=>numeral_any hnu hale (by omega) W
  obtain ⟨xp,x2⟩:=signF_pos hsg h3
  have hxn:=ne_nil xp
  have hxl:x.toList=x.data.toList:=ByteArray.toList_eq x
  have hx4:¬x.toList= []:=by
    intro h
    rw [hxl] at h
    have:x.data.toList.length=x.size:=rfl
    rw [h] at this
    simp at this
    omega
  have hx2:(x.toList== [])=false:=by simpa using hx4
  have hx3:x.toList.isEmpty=false:=by simpa using hx4
  clear hxl
  have hsa2:∀W,Calls Tryz.prog 122 #[.string s,.int .i64 a] W fun e w'=>e= .returned (.string x)∧w'=W:=by
    intro W
    have:=sign_any h3 (by omega) W
    rw [hz,hsg] at this
    exact this
  have HSG:=Lib.hid hsa2;have HNU:=Lib.hid hna
  clear hsa2 hsg hna hnu
  clear h10 h34
  go_enter Tryz.func77,Tryz.ntmps77
  go_wp2_with fail
  refine (HSA.out _).mono ?_
  rintro r w1 ⟨rfl,rfl⟩
  go_wp2_with ((with_reducible show wpList _ _ _ (Oper.mk none (.store 109 _ _) _ _ _ _::_) _ _);refine stT 109 (w.heap.size+1) 0 _ (show _=some (tokC 0 ⟨#[]⟩ 0 0 0) from (by have:=h_new (w.alloc (tokC 0 ⟨#[]⟩ 0 0 0)) (tokC 0 ⟨#[]⟩ 0 0 0);simpa using this)) rfl (.agg #[.int .i64 0,.string ⟨#[]⟩,.float .f64 0,.int .i64 a,.int .i64 a]) rfl (by kernel_rfl) (by simp [Value.cells]) (by simp [Value.cells,Value.oneCell']) ?_)
  intro w2 hs2
  have hr2:=hs2.row
  have hz2:=hs2.size
  simp at hr2 hz2
  have hk2:Keeps [] w w2:=((Keeps.alloc [] w (tokC 0 ⟨#[]⟩ 0 0 0)).trans (Keeps.alloc [] _ (tokC 0 ⟨#[]⟩ 0 0 0)) (by simp)).trans hs2.keeps (by simp)
  have hq2:=hs2.at (h_alloc (o:=tokC 0 ⟨#[]⟩ 0 0 0) (h_new w (tokC 0 ⟨#[]⟩ 0 0 0))) (by omega)
  have HR2:=Lib.hid hr2;have HK2:=Lib.hid hk2;have HQ2:=Lib.hid hq2
  clear hs2 hr2 hk2 hq2
  go_wp2_with ((with_reducible show wpList _ _ _ (Oper.mk none (.store 109 _ _) _ _ _ _::_) _ _);refine stT 109 (w.heap.size+2) 0 _ (show _=some (tokC 0 ⟨#[]⟩ 0 0 0) from (by have:=h_new w2 (tokC 0 ⟨#[]⟩ 0 0 0);rw [hz2] at this;exact this)) (by first|rfl|simp [hz2]) (.agg #[.int .i64 0,.string ⟨#[]⟩,.float .f64 0,.int .i64 a,.int .i64 0]) rfl (by kernel_rfl) (by simp [Value.cells]) (by simp [Value.cells,Value.oneCell']) ?_)
  intro w3 hs3
  have hq3:=hs3.at (h_alloc (o:=tokC 0 ⟨#[]⟩ 0 0 0) HQ2.out) (by omega)
  have hr3:=hs3.at (h_alloc (o:=tokC 0 ⟨#[]⟩ 0 0 0) HR2.out) (by omega)
  have hk3:Keeps [] w w3:=(HK2.out.trans (Keeps.alloc [] w2 (tokC 0 ⟨#[]⟩ 0 0 0)) (by simp)).trans hs3.keeps (by simp)
  clear hs3 hz2 HR2 HK2 HQ2
  have HG3:=Lib.hid (HG.out.keep hk3 (by simp))
  have HQ3:=Lib.hid hq3;have HR3:=Lib.hid hr3;have HK3:=Lib.hid hk3
  clear hq3 hr3 hk3 HSA HG
  generalize hRR:w.heap.size=R at*
  have HRW:Hid (w.heap.size=R):=Lib.hid hRR
  clear hRR
  go_wp2_with fail
  refine (letter_any c _).mono ?_
  rintro r w' ⟨rfl,hw'⟩
  rw [hw']
  clear hw'
  rw [hl]
  go_wp2_with fail
  refine (HNU.out _).mono ?_
  rintro r w' ⟨rfl,hw'⟩
  rw [hw']
  clear hw'
  go_wp2_with fail
  refine (HSG.out _).mono ?_
  rintro r w' ⟨rfl,hw'⟩
  rw [hw']
  clear hw'
  go_wp2_with ((with_reducible show wpList _ _ _ (Oper.mk none (.store 109 _ _) _ _ _ _::_) _ _);refine stT 109 R 0 _ HQ3.out rfl (.agg #[.int .i64 9,.string x,.float .f64 0,.int .i64 a,.int .i64 ((a:Int)+x.size)]) rfl (by kernel_rfl) (by simp [Value.cells]) (by simp [Value.cells,Value.oneCell']) ?_)
  intro w9 hs9
  have x0:=cell_of_heap hs9.row 0
  have x1:=cell_of_heap hs9.row 1
  have x2:=cell_of_heap hs9.row 2
  have x3:=cell_of_heap hs9.row 3
  have x4:=cell_of_heap hs9.row 4
  simp at x0 x1 x2 x3 x4
  have hk9:Keeps [] w w9:=Keeps.trans HK3.out hs9.keeps (by simp [HRW.out])
  clear hs9
  go_wp2_with fail
  exact bodyPost_ret (v:= .tuple #[.agg #[.int .i64 9,.string x,.float .f64 0,.int .i64 a,.int .i64 ((a:Int)+x.size)],.int .i64 0]) (by simp [results,Tryz.results77,go_sem,x0,x1,x2,x3,x4]) rfl ⟨rfl,hk9⟩

set_option maxRecDepth 1000000 in
theorem next_signs_z{w:World}(hG:Gl w){s:ByteArray}{a:Nat}{op:Bool}{c:Int}{x:ByteArray}
    (hsa:∀W,Calls Tryz.prog 112 #[.string s,.int .i64 0] W fun e w'=>e= .returned (.int .i64 a)∧w'=W) (hs:s.size≤100000) (h3:a<s.size) (hz:((s[a]'h3).toNat:Int)=c) (h10:¬c=10) (hl:letterF c=false) (h34:¬c=34) (h47:c=47) (hof:op=false) (hnu:numeralF s a=some a) (hsg:signF s a c=some x):
    Calls Tryz.prog 77 #[.string s,.int .i64 0,.bool op] w fun r w'=>r= .returned (.tuple #[tokV ⟨9,x,0,a,a+x.size⟩,.int .i64 0])∧Keeps [] w w':=by
  have HSA:=Lib.hid hsa;have HG:=Lib.hid hG
  clear hsa hG
  have n10:(c==10)=false:=beq_false_of_ne h10
  have n34:(c==34)=false:=beq_false_of_ne h34
  have hale:a≤s.size:=by omega
  have n47:(c==47)=true:=by simp [h47]
  subst hof
  clear h47
  have hna:=fun W=>numeral_any hnu hale (by omega) W
  obtain ⟨xp,x2⟩:=signF_pos hsg h3
  have hxn:=ne_nil xp
  have hxl:x.toList=x.data.toList:=ByteArray.toList_eq x
  have hx4:¬x.toList= []:=by
    intro h
    rw [hxl] at h
    have:x.data.toList.length=x.size:=rfl
    rw [h] at this
    simp at this
    omega
  have hx2:(x.toList== [])=false:=by simpa using hx4
  have hx3:x.toList.isEmpty=false:=by simpa using hx4
  clear hxl
  have hsa2:∀W,Calls Tryz.prog 122 #[.string s,.int .i64 a] W fun e w'=>e= .returned (.string x)∧w'=W:=by
    intro W
    have:=sign_any h3 (by omega) W
    rw [hz,hsg] at this
    exact this
  have HSG:=Lib.hid hsa2;have HNU:=Lib.hid hna
  clear hsa2 hsg hna hnu
  clear h10 h34
  go_enter Tryz.func77,Tryz.ntmps77
  go_wp2_with fail
  refine (HSA.out _).mono ?_
  rintro r w1 ⟨rfl,rfl⟩
  go_wp2_with ((with_reducible show wpList _ _ _ (Oper.mk none (.store 109 _ _) _ _ _ _::_) _ _);refine stT 109 (w.heap.size+1) 0 _ (show _=some (tokC 0 ⟨#[]⟩ 0 0 0) from (by have:=h_new (w.alloc (tokC 0 ⟨#[]⟩ 0 0 0)) (tokC 0 ⟨#[]⟩ 0 0 0);simpa using this)) rfl (.agg #[.int .i64 0,.string ⟨#[]⟩,.float .f64 0,.int .i64 a,.int .i64 a]) rfl (by kernel_rfl) (by simp [Value.cells]) (by simp [Value.cells,Value.oneCell']) ?_)
  intro w2 hs2
  have hr2:=hs2.row
  have hz2:=hs2.size
  simp at hr2 hz2
  have hk2:Keeps [] w w2:=((Keeps.alloc [] w (tokC 0 ⟨#[]⟩ 0 0 0)).trans (Keeps.alloc [] _ (tokC 0 ⟨#[]⟩ 0 0 0)) (by simp)).trans hs2.keeps (by simp)
  have hq2:=hs2.at (h_alloc (o:=tokC 0 ⟨#[]⟩ 0 0 0) (h_new w (tokC 0 ⟨#[]⟩ 0 0 0))) (by omega)
  have HR2:=Lib.hid hr2;have HK2:=Lib.hid hk2;have HQ2:=Lib.hid hq2
  clear hs2 hr2 hk2 hq2
  go_wp2_with ((with_reducible show wpList _ _ _ (Oper.mk none (.store 109 _ _) _ _ _ _::_) _ _);refine stT 109 (w.heap.size+2) 0 _ (show _=some (tokC 0 ⟨#[]⟩ 0 0 0) from (by have:=h_new w2 (tokC 0 ⟨#[]⟩ 0 0 0);rw [hz2] at this;exact this)) (by first|rfl|simp [hz2]) (.agg #[.int .i64 0,.string ⟨#[]⟩,.float .f64 0,.int .i64 a,.int .i64 0]) rfl (by kernel_rfl) (by simp [Value.cells]) (by simp [Value.cells,Value.oneCell']) ?_)
  intro w3 hs3
  have hq3:=hs3.at (h_alloc (o:=tokC 0 ⟨#[]⟩ 0 0 0) HQ2.out) (by omega)
  have hr3:=hs3.at (h_alloc (o:=tokC 0 ⟨#[]⟩ 0 0 0) HR2.out) (by omega)
  have hk3:Keeps [] w w3:=(HK2.out.trans (Keeps.alloc [] w2 (tokC 0 ⟨#[]⟩ 0 0 0)) (by simp)).trans hs3.keeps (by simp)
  clear hs3 hz2 HR2 HK2 HQ2
  have HG3:=Lib.hid (HG.out.keep hk3 (by simp))
  have HQ3:=Lib.hid hq3;have HR3:=Lib.hid hr3;have HK3:=Lib.hid hk3
  clear hq3 hr3 hk3 HSA HG
  generalize hRR:w.heap.size=R at*
  have HRW:Hid (w.heap.size=R):=Lib.hid hRR
  clear hRR
  go_wp2_with fail
  refine (letter_any c _).mono ?_
  rintro r w' ⟨rfl,hw'⟩
  rw [hw']
  clear hw'
  rw [hl]
  go_wp2_with fail
  refine (HNU.out _).mono ?_
  rintro r w' ⟨rfl,hw'⟩
  rw [hw']
  clear hw'
  go_wp2_with fail
  refine (HSG.out _).mono ?_
  rintro r w' ⟨rfl,hw'⟩
  rw [hw']
  clear hw'
  go_wp2_with ((with_reducible show wpList _ _ _ (Oper.mk none (.store 109 _ _) _ _ _ _::_) _ _);refine stT 109 R 0 _ HQ3.out rfl (.agg #[.int .i64 9,.string x,.float .f64 0,.int .i64 a,.int .i64 ((a:Int)+x.size)]) rfl (by kernel_rfl) (by simp [Value.cells]) (by simp [Value.cells,Value.oneCell']) ?_)
  intro w9 hs9
  have x0:=cell_of_heap hs9.row 0
  have x1:=cell_of_heap hs9.row 1
  have x2:=cell_of_heap hs9.row 2
  have x3:=cell_of_heap hs9.row 3
  have x4:=cell_of_heap hs9.row 4
  simp at x0 x1 x2 x3 x4
  have hk9:Keeps [] w w9:=Keeps.trans HK3.out hs9.keeps (by simp [HRW.out])
  clear hs9
  go_wp2_with fail
  exact bodyPost_ret (v:= .tuple #[.agg #[.int .i64 9,.string x,.float .f64 0,.int .i64 a,.int .i64 ((a:Int)+x.size)],.int .i64 0]) (by simp [results,Tryz.results77,go_sem,x0,x1,x2,x3,x4]) rfl ⟨rfl,hk9⟩

set_option maxRecDepth 1000000 in
theorem next_signn_p{w:World}(hG:Gl w){s:ByteArray}{i a:Nat}{op:Bool}{c:Int}{x:ByteArray}(hpos:0<i)(hi:i≤s.size)
    (hsa:∀W,Calls Tryz.prog 112 #[.string s,.int .i64 i] W fun e w'=>e= .returned (.int .i64 a)∧w'=W) (hs:s.size≤100000) (h3:a<s.size) (hz:((s[a]'h3).toNat:Int)=c) (h10:¬c=10) (hl:letterF c=false) (h34:¬c=34) (h47:¬c=47) (hnu:numeralF s a=some a) (hsg:signF s a c=some x):
    Calls Tryz.prog 77 #[.string s,.int .i64 i,.bool op] w fun r w'=>r= .returned (.tuple #[tokV ⟨9,x,0,a,a+x.size⟩,.int .i64 0])∧Keeps [] w w':=by
  have HSA:=Lib.hid hsa;have HG:=Lib.hid hG
  clear hsa hG
  have n10:(c==10)=false:=beq_false_of_ne h10
  have n34:(c==34)=false:=beq_false_of_ne h34
  have hale:a≤s.size:=by omega
  have n47:(c==47)=false:=beq_false_of_ne h47
  clear h47
  have hna:=fun W=>numeral_any hnu hale (by omega) W
  obtain ⟨xp,x2⟩:=signF_pos hsg h3
  have hxn:=ne_nil xp
  have hxl:x.toList=x.data.toList:=ByteArray.toList_eq x
  have hx4:¬x.toList= []:=by
    intro h
    rw [hxl] at h
    have:x.data.toList.length=x.size:=rfl
    rw [h] at this
    simp at this
    omega
  have hx2:(x.toList== [])=false:=by simpa using hx4
  have hx3:x.toList.isEmpty=false:=by simpa using hx4
  clear hxl
  have hsa2:∀W,Calls Tryz.prog 122 #[.string s,.int .i64 a] W fun e w'=>e= .returned (.string x)∧w'=W:=by
    intro W
    have:=sign_any h3 (by omega) W
    rw [hz,hsg] at this
    exact this
  have HSG:=Lib.hid hsa2;have HNU:=Lib.hid hna
  clear hsa2 hsg hna hnu
  clear h10 h34
  go_enter Tryz.func77,Tryz.ntmps77
  go_wp2_with fail
  refine (HSA.out _).mono ?_
  rintro r w1 ⟨rfl,rfl⟩
  go_wp2_with ((with_reducible show wpList _ _ _ (Oper.mk none (.store 109 _ _) _ _ _ _::_) _ _);refine stT 109 (w.heap.size+1) 0 _ (show _=some (tokC 0 ⟨#[]⟩ 0 0 0) from (by have:=h_new (w.alloc (tokC 0 ⟨#[]⟩ 0 0 0)) (tokC 0 ⟨#[]⟩ 0 0 0);simpa using this)) rfl (.agg #[.int .i64 0,.string ⟨#[]⟩,.float .f64 0,.int .i64 a,.int .i64 a]) rfl (by kernel_rfl) (by simp [Value.cells]) (by simp [Value.cells,Value.oneCell']) ?_)
  intro w2 hs2
  have hr2:=hs2.row
  have hz2:=hs2.size
  simp at hr2 hz2
  have hk2:Keeps [] w w2:=((Keeps.alloc [] w (tokC 0 ⟨#[]⟩ 0 0 0)).trans (Keeps.alloc [] _ (tokC 0 ⟨#[]⟩ 0 0 0)) (by simp)).trans hs2.keeps (by simp)
  have hq2:=hs2.at (h_alloc (o:=tokC 0 ⟨#[]⟩ 0 0 0) (h_new w (tokC 0 ⟨#[]⟩ 0 0 0))) (by omega)
  have HR2:=Lib.hid hr2;have HK2:=Lib.hid hk2;have HQ2:=Lib.hid hq2
  clear hs2 hr2 hk2 hq2
  go_wp2_with ((with_reducible show wpList _ _ _ (Oper.mk none (.store 109 _ _) _ _ _ _::_) _ _);refine stT 109 (w.heap.size+2) 0 _ (show _=some (tokC 0 ⟨#[]⟩ 0 0 0) from (by have:=h_new w2 (tokC 0 ⟨#[]⟩ 0 0 0);rw [hz2] at this;exact this)) (by first|rfl|simp [hz2]) (.agg #[.int .i64 0,.string ⟨#[]⟩,.float .f64 0,.int .i64 a,.int .i64 0]) rfl (by kernel_rfl) (by simp [Value.cells]) (by simp [Value.cells,Value.oneCell']) ?_)
  intro w3 hs3
  have hq3:=hs3.at (h_alloc (o:=tokC 0 ⟨#[]⟩ 0 0 0) HQ2.out) (by omega)
  have hr3:=hs3.at (h_alloc (o:=tokC 0 ⟨#[]⟩ 0 0 0) HR2.out) (by omega)
  have hk3:Keeps [] w w3:=(HK2.out.trans (Keeps.alloc [] w2 (tokC 0 ⟨#[]⟩ 0 0 0)) (by simp)).trans hs3.keeps (by simp)
  clear hs3 hz2 HR2 HK2 HQ2
  have HG3:=Lib.hid (HG.out.keep hk3 (by simp))
  have HQ3:=Lib.hid hq3;have HR3:=Lib.hid hr3;have HK3:=Lib.hid hk3
  clear hq3 hr3 hk3 HSA HG
  generalize hRR:w.heap.size=R at*
  have HRW:Hid (w.heap.size=R):=Lib.hid hRR
  clear hRR
  go_wp2_with fail
  refine (letter_any c _).mono ?_
  rintro r w' ⟨rfl,hw'⟩
  rw [hw']
  clear hw'
  rw [hl]
  go_wp2_with fail
  refine (HNU.out _).mono ?_
  rintro r w' ⟨rfl,hw'⟩
  rw [hw']
  clear hw'
  go_wp2_with fail
  refine (HSG.out _).mono ?_
  rintro r w' ⟨rfl,hw'⟩
  rw [hw']
  clear hw'
  go_wp2_with ((with_reducible show wpList _ _ _ (Oper.mk none (.store 109 _ _) _ _ _ _::_) _ _);refine stT 109 R 0 _ HQ3.out rfl (.agg #[.int .i64 9,.string x,.float .f64 0,.int .i64 a,.int .i64 ((a:Int)+x.size)]) rfl (by kernel_rfl) (by simp [Value.cells]) (by simp [Value.cells,Value.oneCell']) ?_)
  intro w9 hs9
  have x0:=cell_of_heap hs9.row 0
  have x1:=cell_of_heap hs9.row 1
  have x2:=cell_of_heap hs9.row 2
  have x3:=cell_of_heap hs9.row 3
  have x4:=cell_of_heap hs9.row 4
  simp at x0 x1 x2 x3 x4
  have hk9:Keeps [] w w9:=Keeps.trans HK3.out hs9.keeps (by simp [HRW.out])
  clear hs9
  go_wp2_with fail
  exact bodyPost_ret (v:= .tuple #[.agg #[.int .i64 9,.string x,.float .f64 0,.int .i64 a,.int .i64 ((a:Int)+x.size)],.int .i64 0]) (by simp [results,Tryz.results77,go_sem,x0,x1,x2,x3,x4]) rfl ⟨rfl,hk9⟩

set_option maxRecDepth 1000000 in
theorem next_signs_p{w:World}(hG:Gl w){s:ByteArray}{i a:Nat}{op:Bool}{c:Int}{x:ByteArray}(hpos:0<i)(hi:i≤s.size)
    (hsa:∀W,Calls Tryz.prog 112 #[.string s,.int .i64 i] W fun e w'=>e= .returned (.int .i64 a)∧w'=W) (hs:s.size≤100000) (h3:a<s.size) (hz:((s[a]'h3).toNat:Int)=c) (h10:¬c=10) (hl:letterF c=false) (h34:¬c=34) (h47:c=47) (hof:op=false) (hnu:numeralF s a=some a) (hsg:signF s a c=some x):
    Calls Tryz.prog 77 #[.string s,.int .i64 i,.bool op] w fun r w'=>r= .returned (.tuple #[tokV ⟨9,x,0,a,a+x.size⟩,.int .i64 0])∧Keeps [] w w':=by
  have HSA:=Lib.hid hsa;have HG:=Lib.hid hG
  clear hsa hG
  have n10:(c==10)=false:=beq_false_of_ne h10
  have n34:(c==34)=false:=beq_false_of_ne h34
  have hale:a≤s.size:=by omega
  have n47:(c==47)=true:=by simp [h47]
  subst hof
  clear h47
  have hna:=fun W=>numeral_any hnu hale (by omega) W
  obtain ⟨xp,x2⟩:=signF_pos hsg h3
  have hxn:=ne_nil xp
  have hxl:x.toList=x.data.toList:=ByteArray.toList_eq x
  have hx4:¬x.toList= []:=by
    intro h
    rw [hxl] at h
    have:x.data.toList.length=x.size:=rfl
    rw [h] at this
    simp at this
    omega
  have hx2:(x.toList== [])=false:=by simpa using hx4
  have hx3:x.toList.isEmpty=false:=by simpa using hx4
  clear hxl
  have hsa2:∀W,Calls Tryz.prog 122 #[.string s,.int .i64 a] W fun e w'=>e= .returned (.string x)∧w'=W:=by
    intro W
    have:=sign_any h3 (by omega) W
    rw [hz,hsg] at this
    exact this
  have HSG:=Lib.hid hsa2;have HNU:=Lib.hid hna
  clear hsa2 hsg hna hnu
  clear h10 h34
  go_enter Tryz.func77,Tryz.ntmps77
  go_wp2_with fail
  refine (HSA.out _).mono ?_
  rintro r w1 ⟨rfl,rfl⟩
  go_wp2_with ((with_reducible show wpList _ _ _ (Oper.mk none (.store 109 _ _) _ _ _ _::_) _ _);refine stT 109 (w.heap.size+1) 0 _ (show _=some (tokC 0 ⟨#[]⟩ 0 0 0) from (by have:=h_new (w.alloc (tokC 0 ⟨#[]⟩ 0 0 0)) (tokC 0 ⟨#[]⟩ 0 0 0);simpa using this)) rfl (.agg #[.int .i64 0,.string ⟨#[]⟩,.float .f64 0,.int .i64 a,.int .i64 a]) rfl (by kernel_rfl) (by simp [Value.cells]) (by simp [Value.cells,Value.oneCell']) ?_)
  intro w2 hs2
  have hr2:=hs2.row
  have hz2:=hs2.size
  simp at hr2 hz2
  have hk2:Keeps [] w w2:=((Keeps.alloc [] w (tokC 0 ⟨#[]⟩ 0 0 0)).trans (Keeps.alloc [] _ (tokC 0 ⟨#[]⟩ 0 0 0)) (by simp)).trans hs2.keeps (by simp)
  have hq2:=hs2.at (h_alloc (o:=tokC 0 ⟨#[]⟩ 0 0 0) (h_new w (tokC 0 ⟨#[]⟩ 0 0 0))) (by omega)
  have HR2:=Lib.hid hr2;have HK2:=Lib.hid hk2;have HQ2:=Lib.hid hq2
  clear hs2 hr2 hk2 hq2
  go_wp2_with ((with_reducible show wpList _ _ _ (Oper.mk none (.store 109 _ _) _ _ _ _::_) _ _);refine stT 109 (w.heap.size+2) 0 _ (show _=some (tokC 0 ⟨#[]⟩ 0 0 0) from (by have:=h_new w2 (tokC 0 ⟨#[]⟩ 0 0 0);rw [hz2] at this;exact this)) (by first|rfl|simp [hz2]) (.agg #[.int .i64 0,.string ⟨#[]⟩,.float .f64 0,.int .i64 a,.int .i64 0]) rfl (by kernel_rfl) (by simp [Value.cells]) (by simp [Value.cells,Value.oneCell']) ?_)
  intro w3 hs3
  have hq3:=hs3.at (h_alloc (o:=tokC 0 ⟨#[]⟩ 0 0 0) HQ2.out) (by omega)
  have hr3:=hs3.at (h_alloc (o:=tokC 0 ⟨#[]⟩ 0 0 0) HR2.out) (by omega)
  have hk3:Keeps [] w w3:=(HK2.out.trans (Keeps.alloc [] w2 (tokC 0 ⟨#[]⟩ 0 0 0)) (by simp)).trans hs3.keeps (by simp)
  clear hs3 hz2 HR2 HK2 HQ2
  have HG3:=Lib.hid (HG.out.keep hk3 (by simp))
  have HQ3:=Lib.hid hq3;have HR3:=Lib.hid hr3;have HK3:=Lib.hid hk3
  clear hq3 hr3 hk3 HSA HG
  generalize hRR:w.heap.size=R at*
  have HRW:Hid (w.heap.size=R):=Lib.hid hRR
  clear hRR
  go_wp2_with fail
  refine (letter_any c _).mono ?_
  rintro r w' ⟨rfl,hw'⟩
  rw [hw']
  clear hw'
  rw [hl]
  go_wp2_with fail
  refine (HNU.out _).mono ?_
  rintro r w' ⟨rfl,hw'⟩
  rw [hw']
  clear hw'
  go_wp2_with fail
  refine (HSG.out _).mono ?_
  rintro r w' ⟨rfl,hw'⟩
  rw [hw']
  clear hw'
  go_wp2_with ((with_reducible show wpList _ _ _ (Oper.mk none (.store 109 _ _) _ _ _ _::_) _ _);refine stT 109 R 0 _ HQ3.out rfl (.agg #[.int .i64 9,.string x,.float .f64 0,.int .i64 a,.int .i64 ((a:Int)+x.size)]) rfl (by kernel_rfl) (by simp [Value.cells]) (by simp [Value.cells,Value.oneCell']) ?_)
  intro w9 hs9
  have x0:=cell_of_heap hs9.row 0
  have x1:=cell_of_heap hs9.row 1
  have x2:=cell_of_heap hs9.row 2
  have x3:=cell_of_heap hs9.row 3
  have x4:=cell_of_heap hs9.row 4
  simp at x0 x1 x2 x3 x4
  have hk9:Keeps [] w w9:=Keeps.trans HK3.out hs9.keeps (by simp [HRW.out])
  clear hs9
  go_wp2_with fail
  exact bodyPost_ret (v:= .tuple #[.agg #[.int .i64 9,.string x,.float .f64 0,.int .i64 a,.int .i64 ((a:Int)+x.size)],.int .i64 0]) (by simp [results,Tryz.results77,go_sem,x0,x1,x2,x3,x4]) rfl ⟨rfl,hk9⟩
end Go.Proofs.YteafcepaolofpaaGreatDoor
