/- Texts of this claim, joined: TokR, TokH, ParA, ParB. -/
import Derived.Test.YteafcepaolofpaaGreatDoorTokG
set_option maxRecDepth 100000
set_option maxHeartbeats 4000000
set_option linter.unusedSimpArgs false
set_option linter.unusedVariables false
set_option linter.unusedSectionVars false
section
/- Next at a regular expression; unslashed. Made by a program (tokr.py). -/
namespace Go.Proofs.YteafcepaolofpaaGreatDoor
open Go.RowKit
theorem ext_next(t:ByteArray){k:Nat}(h:k<t.size):t.extract 0 k++t.extract k (k+1)=t.extract 0 (k+1):=by
  apply ByteArray.ext
  simp only [ByteArray.data_append,ByteArray.data_extract,Array.extract_append_extract]
  congr 1<;>omega
theorem plain_at{t : ByteArray}(h:plainF t=true){k:Nat}(hk:k<t.size):((t[k]'hk).toNat:Int)≠92:=by
  intro e
  have h1:=List.all_eq_true.1 h (t[k]'hk) (by
    rw [ByteArray.getElem_eq_getElem_data]
    exact Array.mem_toList_iff.2 (Array.getElem_mem _))
  simp only [bne_iff_ne,ne_eq] at h1
  exact h1 (UInt8.toNat_inj.1 (by have:(t[k]'hk).toNat=92:=by omega
                                  rw [this];rfl))
theorem unslash_any{t:ByteArray}(h:plainF t=true)(hs:t.size≤1000000)(w:World):Calls Tryz.prog 118 #[.string t] w fun r w'=>r= .returned (.string t)∧w'=w:=by
  have H:=Lib.hid h
  clear h
  go_enter Tryz.func118,Tryz.ntmps118
  go_wp2_with fail
  go_loopg [3,4] (t.size+1) (fun g u j wr=>∃k:Nat,j= .int .i64 k∧k≤t.size∧t.size+1=g+k∧u= .string (t.extract 0 k)∧wr=w)
  case atStart=>exact ⟨0,rfl,Nat.zero_le _,rfl,by simp;rfl,rfl⟩
  case round=>
    obtain ⟨k,rfl,hk1,hk2,rfl,rfl⟩:=hrel
    by_cases hlt:k<t.size
    · have hz:=plain_at H.out hlt
      have hex:=Lib.hid (ext_next t hlt)
      have hsz:¬9223372036854775807<(t.extract 0 k).size+(t.extract k (k+1)).size:=by rw [ByteArray.size_extract,ByteArray.size_extract];omega
      generalize hzk:((t[k]'hlt).toNat:Int)=z at*
      have hzb:(z==92)=false:=beq_false_of_ne hz
      clear hz
      cases gk with
      |zero=>omega
      | succ f=>
        go_wp2_with fail
        go_roundg f
        case measure=>omega
        case rel=>exact ⟨k+1,by first|rfl|(simp;done)|(simp;omega),by omega,by omega,(by first|rfl|rw [hex.out]),rfl⟩
    · have hke:k=t.size:=by omega
      subst hke
      go_wp2_with fail
      exact bodyPost_ret (v:= .string t) (by simp [results,Tryz.results118,go_sem]) rfl ⟨rfl,rfl⟩

set_option maxRecDepth 1000000 in
theorem next_regex_z{w:World}(hG:Gl w){s:ByteArray}{a:Nat}{e:Nat}
    (hsa:∀W,Calls Tryz.prog 112 #[.string s,.int .i64 0] W fun e w'=>e= .returned (.int .i64 a)∧w'=W) (hs:s.size≤100000) (h3:a<s.size) (hz:((s[a]'h3).toNat:Int)=47) (hce:closesF s 47 (s.size+1) (a+1)=some e) (hpl:plainF (s.extract (a+1) e)=true):
    Calls Tryz.prog 77 #[.string s,.int .i64 0,.bool true] w fun r w'=>r= .returned (.tuple #[tokV ⟨4,s.extract (a+1) e,0,a,e+1⟩,.int .i64 0])∧Keeps [] w w':=by
  have HSA:=Lib.hid hsa;have HG:=Lib.hid hG
  clear hsa hG
  have hl:letterF 47=false:=by decide
  have hale:a≤s.size:=by omega
  obtain ⟨le1,le2⟩:=closesF_lt hce
  have hcl2:=fun W=>closes_any h3 (e:=e) (f:=s.size+1) (by rw [hz];exact hce) (by omega) W
  have htd:=fun W=>unslash_any hpl (by rw [ByteArray.size_extract];omega) W
  have HCA:=Lib.hid hcl2;have HTD:=Lib.hid htd
  clear hce hcl2 htd hpl
  go_enter Tryz.func77,Tryz.ntmps77
  go_wp2_with fail
  refine (HSA.out _).mono ?_
  rintro r w1 ⟨rfl,rfl⟩
  go_wp2_with ((with_reducible show wpList _ _ _ (Oper.mk none (.store 109 _ _) _ _ _ _::_) _ _);refine stT 109 (w.heap.size+1) 0 _ (show _=some (tokC 0 ⟨#[]⟩ 0 0 0) from (by have:=h_new (w.alloc (tokC 0 ⟨#[]⟩ 0 0 0)) (tokC 0 ⟨#[]⟩ 0 0 0);simpa using this)) rfl (.agg #[.int .i64 0,.string ⟨#[]⟩,.float .f64 0,.int .i64 a,.int .i64 a]) rfl (by kernel_rfl) (by simp [Value.cells]) (by simp [Value.cells,Value.oneCell']) ?_)
  intro w2 hs2
  have hr2:=hs2.row
  have hz2:=hs2.size
  simp at hr2 hz2
  have hk2:Keeps [] w w2:=((Keeps.alloc [] w (tokC 0 ⟨#[]⟩ 0 0 0)).trans (Keeps.alloc [] _ (tokC 0 ⟨#[]⟩ 0 0 0)) (by simp)).trans hs2.keeps (by simp)
  have hq2:=hs2.at (h_alloc (o:=tokC 0 ⟨#[]⟩ 0 0 0) (h_new w (tokC 0 ⟨#[]⟩ 0 0 0))) (by omega)
  have HR2:=Lib.hid hr2;have HK2:=Lib.hid hk2;have HQ2:=Lib.hid hq2
  clear hs2 hr2 hk2 hq2
  go_wp2_with ((with_reducible show wpList _ _ _ (Oper.mk none (.store 109 _ _) _ _ _ _::_) _ _);refine stT 109 (w.heap.size+2) 0 _ (show _=some (tokC 0 ⟨#[]⟩ 0 0 0) from (by have:=h_new w2 (tokC 0 ⟨#[]⟩ 0 0 0);rw [hz2] at this;exact this)) (by first|rfl|simp [hz2]) (.agg #[.int .i64 0,.string ⟨#[]⟩,.float .f64 0,.int .i64 a,.int .i64 0]) rfl (by kernel_rfl) (by simp [Value.cells]) (by simp [Value.cells,Value.oneCell']) ?_)
  intro w3 hs3
  have hq3:=hs3.at (h_alloc (o:=tokC 0 ⟨#[]⟩ 0 0 0) HQ2.out) (by omega)
  have hr3:=hs3.at (h_alloc (o:=tokC 0 ⟨#[]⟩ 0 0 0) HR2.out) (by omega)
  have hk3:Keeps [] w w3:=(HK2.out.trans (Keeps.alloc [] w2 (tokC 0 ⟨#[]⟩ 0 0 0)) (by simp)).trans hs3.keeps (by simp)
  clear hs3 hz2 HR2 HK2 HQ2
  have HG3:=Lib.hid (HG.out.keep hk3 (by simp))
  have HQ3:=Lib.hid hq3;have HR3:=Lib.hid hr3;have HK3:=Lib.hid hk3
  clear hq3 hr3 hk3 HSA HG
  generalize hRR:w.heap.size=R at*
  have HRW:Hid (w.heap.size=R):=Lib.hid hRR
  clear hRR
  go_wp2_with fail
  refine (letter_any 47 _).mono ?_
  rintro r w' ⟨rfl,hw'⟩
  rw [hw']
  clear hw'
  rw [hl]
  go_wp2_with fail
  refine (HCA.out _).mono ?_
  rintro r w' ⟨rfl,n,hw'⟩
  rw [hw']
  clear hw'
  have hk5:Keeps [] w3 (w3.drewN n):=Keeps.drewN [] w3 n
  have HR5:=Lib.hid (hk5.at HR3.out (by simp));have HQ5:=Lib.hid (hk5.at HQ3.out (by simp));have HK5:=Lib.hid (HK3.out.trans hk5 (by simp))
  clear hk5
  generalize w3.drewN n=w5 at*
  have d0:=cell_of_heap HR5.out 0
  have df0:=frozen_of_heap HR5.out 0
  have d1:=cell_of_heap HR5.out 1
  have df1:=frozen_of_heap HR5.out 1
  have d2:=cell_of_heap HR5.out 2
  have df2:=frozen_of_heap HR5.out 2
  have d3:=cell_of_heap HR5.out 3
  have df3:=frozen_of_heap HR5.out 3
  have d4:=cell_of_heap HR5.out 4
  have df4:=frozen_of_heap HR5.out 4
  simp at d0 d1 d2 d3 d4

  go_wp2_with fail
  have HR6:Hid (((w5.setCell ⟨R+1,4,none⟩ (.int .i64 ((e:Int)+1))).setCell ⟨R+1,0,none⟩ (.int .i64 4)).heap[R+1]? =some (tokC 4 ⟨#[]⟩ 0 a ((e:Int)+1))):=Lib.hid (by have:=h_set_eq (i:=0) (u:= .int .i64 4) (h_set_eq (i:=4) (u:= .int .i64 ((e:Int)+1)) HR5.out);simpa using this)
  have HQ6:Hid (((w5.setCell ⟨R+1,4,none⟩ (.int .i64 ((e:Int)+1))).setCell ⟨R+1,0,none⟩ (.int .i64 4)).heap[R]? =some (tokC 0 ⟨#[]⟩ 0 0 0)):=Lib.hid (h_set_ne (by simp) (h_set_ne (by simp) HQ5.out))
  have HK6:Hid (Keeps [] w ((w5.setCell ⟨R+1,4,none⟩ (.int .i64 ((e:Int)+1))).setCell ⟨R+1,0,none⟩ (.int .i64 4))):=Lib.hid (Keeps.trans (Keeps.trans HK5.out (fp':= [R+1]) (Keeps.setCell _ _ _ _ (by simp)) (by simp [HRW.out])) (fp':= [R+1]) (Keeps.setCell _ _ _ _ (by simp)) (by simp [HRW.out]))
  generalize ((w5.setCell ⟨R+1,4,none⟩ (.int .i64 ((e:Int)+1))).setCell ⟨R+1,0,none⟩ (.int .i64 4))=w6 at*
  refine (HTD.out _).mono ?_
  rintro r w7 ⟨rfl,rfl⟩
  have HR7:=HR6;have HQ7:=HQ6;have HK7:=HK6
  clear d0 d1 d2 d3 d4
  have e0:=cell_of_heap HR7.out 0
  have ef0:=frozen_of_heap HR7.out 0
  have e1:=cell_of_heap HR7.out 1
  have ef1:=frozen_of_heap HR7.out 1
  have e2:=cell_of_heap HR7.out 2
  have ef2:=frozen_of_heap HR7.out 2
  have e3:=cell_of_heap HR7.out 3
  have ef3:=frozen_of_heap HR7.out 3
  have e4:=cell_of_heap HR7.out 4
  have ef4:=frozen_of_heap HR7.out 4
  simp at e0 e1 e2 e3 e4

  go_wp2_with ((with_reducible show wpList _ _ _ (Oper.mk none (.store 109 _ _) _ _ _ _::_) _ _);refine stT 109 R 0 _ (h_set_ne (by simp) HQ7.out) rfl (.agg #[.int .i64 4,.string (s.extract (a+1) e),.float .f64 0,.int .i64 a,.int .i64 ((e:Int)+1)]) rfl (by kernel_rfl) (by simp [Value.cells]) (by simp [Value.cells,Value.oneCell']) ?_)
  intro w9 hs9
  have x0:=cell_of_heap hs9.row 0
  have x1:=cell_of_heap hs9.row 1
  have x2:=cell_of_heap hs9.row 2
  have x3:=cell_of_heap hs9.row 3
  have x4:=cell_of_heap hs9.row 4
  simp at x0 x1 x2 x3 x4
  have hk9:Keeps [] w w9:=Keeps.trans (Keeps.trans HK7.out (fp':= [R+1]) (Keeps.setCell _ _ _ _ (by simp)) (by simp [HRW.out])) hs9.keeps (by simp [HRW.out])
  clear hs9
  go_wp2_with fail
  exact bodyPost_ret (v:= .tuple #[.agg #[.int .i64 4,.string (s.extract (a+1) e),.float .f64 0,.int .i64 a,.int .i64 ((e:Int)+1)],.int .i64 0]) (by simp [results,Tryz.results77,go_sem,x0,x1,x2,x3,x4]) rfl ⟨rfl,hk9⟩

set_option maxRecDepth 1000000 in
theorem next_regex_p{w:World}(hG:Gl w){s:ByteArray}{i a:Nat}{e:Nat}(hpos:0<i)(hi:i≤s.size)
    (hsa:∀W,Calls Tryz.prog 112 #[.string s,.int .i64 i] W fun e w'=>e= .returned (.int .i64 a)∧w'=W) (hs:s.size≤100000) (h3:a<s.size) (hz:((s[a]'h3).toNat:Int)=47) (hce:closesF s 47 (s.size+1) (a+1)=some e) (hpl:plainF (s.extract (a+1) e)=true):
    Calls Tryz.prog 77 #[.string s,.int .i64 i,.bool true] w fun r w'=>r= .returned (.tuple #[tokV ⟨4,s.extract (a+1) e,0,a,e+1⟩,.int .i64 0])∧Keeps [] w w':=by
  have HSA:=Lib.hid hsa;have HG:=Lib.hid hG
  clear hsa hG
  have hl:letterF 47=false:=by decide
  have hale:a≤s.size:=by omega
  obtain ⟨le1,le2⟩:=closesF_lt hce
  have hcl2:=fun W=>closes_any h3 (e:=e) (f:=s.size+1) (by rw [hz];exact hce) (by omega) W
  have htd:=fun W=>unslash_any hpl (by rw [ByteArray.size_extract];omega) W
  have HCA:=Lib.hid hcl2;have HTD:=Lib.hid htd
  clear hce hcl2 htd hpl
  go_enter Tryz.func77,Tryz.ntmps77
  go_wp2_with fail
  refine (HSA.out _).mono ?_
  rintro r w1 ⟨rfl,rfl⟩
  go_wp2_with ((with_reducible show wpList _ _ _ (Oper.mk none (.store 109 _ _) _ _ _ _::_) _ _);refine stT 109 (w.heap.size+1) 0 _ (show _=some (tokC 0 ⟨#[]⟩ 0 0 0) from (by have:=h_new (w.alloc (tokC 0 ⟨#[]⟩ 0 0 0)) (tokC 0 ⟨#[]⟩ 0 0 0);simpa using this)) rfl (.agg #[.int .i64 0,.string ⟨#[]⟩,.float .f64 0,.int .i64 a,.int .i64 a]) rfl (by kernel_rfl) (by simp [Value.cells]) (by simp [Value.cells,Value.oneCell']) ?_)
  intro w2 hs2
  have hr2:=hs2.row
  have hz2:=hs2.size
  simp at hr2 hz2
  have hk2:Keeps [] w w2:=((Keeps.alloc [] w (tokC 0 ⟨#[]⟩ 0 0 0)).trans (Keeps.alloc [] _ (tokC 0 ⟨#[]⟩ 0 0 0)) (by simp)).trans hs2.keeps (by simp)
  have hq2:=hs2.at (h_alloc (o:=tokC 0 ⟨#[]⟩ 0 0 0) (h_new w (tokC 0 ⟨#[]⟩ 0 0 0))) (by omega)
  have HR2:=Lib.hid hr2;have HK2:=Lib.hid hk2;have HQ2:=Lib.hid hq2
  clear hs2 hr2 hk2 hq2
  go_wp2_with ((with_reducible show wpList _ _ _ (Oper.mk none (.store 109 _ _) _ _ _ _::_) _ _);refine stT 109 (w.heap.size+2) 0 _ (show _=some (tokC 0 ⟨#[]⟩ 0 0 0) from (by have:=h_new w2 (tokC 0 ⟨#[]⟩ 0 0 0);rw [hz2] at this;exact this)) (by first|rfl|simp [hz2]) (.agg #[.int .i64 0,.string ⟨#[]⟩,.float .f64 0,.int .i64 a,.int .i64 0]) rfl (by kernel_rfl) (by simp [Value.cells]) (by simp [Value.cells,Value.oneCell']) ?_)
  intro w3 hs3
  have hq3:=hs3.at (h_alloc (o:=tokC 0 ⟨#[]⟩ 0 0 0) HQ2.out) (by omega)
  have hr3:=hs3.at (h_alloc (o:=tokC 0 ⟨#[]⟩ 0 0 0) HR2.out) (by omega)
  have hk3:Keeps [] w w3:=(HK2.out.trans (Keeps.alloc [] w2 (tokC 0 ⟨#[]⟩ 0 0 0)) (by simp)).trans hs3.keeps (by simp)
  clear hs3 hz2 HR2 HK2 HQ2
  have HG3:=Lib.hid (HG.out.keep hk3 (by simp))
  have HQ3:=Lib.hid hq3;have HR3:=Lib.hid hr3;have HK3:=Lib.hid hk3
  clear hq3 hr3 hk3 HSA HG
  generalize hRR:w.heap.size=R at*
  have HRW:Hid (w.heap.size=R):=Lib.hid hRR
  clear hRR
  go_wp2_with fail
  refine (letter_any 47 _).mono ?_
  rintro r w' ⟨rfl,hw'⟩
  rw [hw']
  clear hw'
  rw [hl]
  go_wp2_with fail
  refine (HCA.out _).mono ?_
  rintro r w' ⟨rfl,n,hw'⟩
  rw [hw']
  clear hw'
  have hk5:Keeps [] w3 (w3.drewN n):=Keeps.drewN [] w3 n
  have HR5:=Lib.hid (hk5.at HR3.out (by simp));have HQ5:=Lib.hid (hk5.at HQ3.out (by simp));have HK5:=Lib.hid (HK3.out.trans hk5 (by simp))
  clear hk5
  generalize w3.drewN n=w5 at*
  have d0:=cell_of_heap HR5.out 0
  have df0:=frozen_of_heap HR5.out 0
  have d1:=cell_of_heap HR5.out 1
  have df1:=frozen_of_heap HR5.out 1
  have d2:=cell_of_heap HR5.out 2
  have df2:=frozen_of_heap HR5.out 2
  have d3:=cell_of_heap HR5.out 3
  have df3:=frozen_of_heap HR5.out 3
  have d4:=cell_of_heap HR5.out 4
  have df4:=frozen_of_heap HR5.out 4
  simp at d0 d1 d2 d3 d4

  go_wp2_with fail
  have HR6:Hid (((w5.setCell ⟨R+1,4,none⟩ (.int .i64 ((e:Int)+1))).setCell ⟨R+1,0,none⟩ (.int .i64 4)).heap[R+1]? =some (tokC 4 ⟨#[]⟩ 0 a ((e:Int)+1))):=Lib.hid (by have:=h_set_eq (i:=0) (u:= .int .i64 4) (h_set_eq (i:=4) (u:= .int .i64 ((e:Int)+1)) HR5.out);simpa using this)
  have HQ6:Hid (((w5.setCell ⟨R+1,4,none⟩ (.int .i64 ((e:Int)+1))).setCell ⟨R+1,0,none⟩ (.int .i64 4)).heap[R]? =some (tokC 0 ⟨#[]⟩ 0 0 0)):=Lib.hid (h_set_ne (by simp) (h_set_ne (by simp) HQ5.out))
  have HK6:Hid (Keeps [] w ((w5.setCell ⟨R+1,4,none⟩ (.int .i64 ((e:Int)+1))).setCell ⟨R+1,0,none⟩ (.int .i64 4))):=Lib.hid (Keeps.trans (Keeps.trans HK5.out (fp':= [R+1]) (Keeps.setCell _ _ _ _ (by simp)) (by simp [HRW.out])) (fp':= [R+1]) (Keeps.setCell _ _ _ _ (by simp)) (by simp [HRW.out]))
  generalize ((w5.setCell ⟨R+1,4,none⟩ (.int .i64 ((e:Int)+1))).setCell ⟨R+1,0,none⟩ (.int .i64 4))=w6 at*
  refine (HTD.out _).mono ?_
  rintro r w7 ⟨rfl,rfl⟩
  have HR7:=HR6;have HQ7:=HQ6;have HK7:=HK6
  clear d0 d1 d2 d3 d4
  have e0:=cell_of_heap HR7.out 0
  have ef0:=frozen_of_heap HR7.out 0
  have e1:=cell_of_heap HR7.out 1
  have ef1:=frozen_of_heap HR7.out 1
  have e2:=cell_of_heap HR7.out 2
  have ef2:=frozen_of_heap HR7.out 2
  have e3:=cell_of_heap HR7.out 3
  have ef3:=frozen_of_heap HR7.out 3
  have e4:=cell_of_heap HR7.out 4
  have ef4:=frozen_of_heap HR7.out 4
  simp at e0 e1 e2 e3 e4

  go_wp2_with ((with_reducible show wpList _ _ _ (Oper.mk none (.store 109 _ _) _ _ _ _::_) _ _);refine stT 109 R 0 _ (h_set_ne (by simp) HQ7.out) rfl (.agg #[.int .i64 4,.string (s.extract (a+1) e),.float .f64 0,.int .i64 a,.int .i64 ((e:Int)+1)]) rfl (by kernel_rfl) (by simp [Value.cells]) (by simp [Value.cells,Value.oneCell']) ?_)
  intro w9 hs9
  have x0:=cell_of_heap hs9.row 0
  have x1:=cell_of_heap hs9.row 1
  have x2:=cell_of_heap hs9.row 2
  have x3:=cell_of_heap hs9.row 3
  have x4:=cell_of_heap hs9.row 4
  simp at x0 x1 x2 x3 x4
  have hk9:Keeps [] w w9:=Keeps.trans (Keeps.trans HK7.out (fp':= [R+1]) (Keeps.setCell _ _ _ _ (by simp)) (by simp [HRW.out])) hs9.keeps (by simp [HRW.out])
  clear hs9
  go_wp2_with fail
  exact bodyPost_ret (v:= .tuple #[.agg #[.int .i64 4,.string (s.extract (a+1) e),.float .f64 0,.int .i64 a,.int .i64 ((e:Int)+1)],.int .i64 0]) (by simp [results,Tryz.results77,go_sem,x0,x1,x2,x3,x4]) rfl ⟨rfl,hk9⟩

end Go.Proofs.YteafcepaolofpaaGreatDoor
end
section
/- Next: put together. -/
namespace Go.Proofs.YteafcepaolofpaaGreatDoor
open Go.RowKit

theorem next_any{w : World}(hG:Gl w){s:ByteArray}{i:Nat}{op:Bool}{t:Tok}(h:nextF s i op=some t)(hi:i≤s.size)(hs:s.size≤100000):
    Calls Tryz.prog 77 #[.string s,.int .i64 i,.bool op] w fun r w'=>r= .returned (.tuple #[tokV t,.int .i64 0])∧Keeps [] w w':=by
  have hm:min i s.size=i:=by omega
  rw [nextF,hm] at h
  cases hsk:skipF s (s.size+1) i with
  |none=>rw [hsk] at h;simp at h
  | some a=>
    rw [hsk] at h
    simp only [Option.bind_eq_bind,Option.bind_some] at h
    have hale:=(skipF_le hsk).2 hi
    have hsa:=fun W=>skip_any hsk hi (by omega) W
    by_cases h3:a<s.size
    · rw [nth_some h3] at h
      generalize hz:((s[a]'h3).toNat:Int)=c at*
      simp only at h
      by_cases h10:c=10
      · rw [if_pos h10] at h
        obtain rfl:=Option.some.inj h
        rcases Nat.eq_zero_or_pos i with rfl|hpos
        · exact next_nl_z hG hsa hs h3 hz h10
        · exact next_nl_p hG hpos hi hsa hs h3 hz h10
      · rw [if_neg h10] at h
        cases hl:letterF c
        · rw [hl] at h
          simp only [Bool.false_eq_true,if_false] at h
          by_cases h34:c=34
          · subst h34
            rw [if_pos rfl,textF] at h
            cases hce:closesF s 34 (s.size+1) (a+1) with
            |none=>rw [hce] at h;simp at h
            | some e=>
              rw [hce] at h
              simp only [Option.bind_eq_bind,Option.bind_some] at h
              cases hpl:plainF (s.extract (a+1) e)
              · rw [hpl] at h;simp at h
              · rw [hpl] at h
                simp only [if_true,Option.some.injEq] at h
                subst h
                rcases Nat.eq_zero_or_pos i with rfl|hpos
                · exact next_text_z hG hsa hs h3 hz hce hpl
                · exact next_text_p hG hpos hi hsa hs h3 hz hce hpl
          · rw [if_neg h34] at h
            cases hop:(decide (c=47)&&op)
            · rw [hop] at h
              simp only [Bool.false_eq_true,if_false,otherF,Option.bind_eq_bind] at h
              have h47:c=47→op=false:=by
                intro h47
                cases op with
                |false=>rfl
                |true=>simp [h47] at hop
              cases hnu:numeralF s a with
              |none=>rw [hnu] at h;simp at h
              | some e=>
                rw [hnu] at h
                simp only [Option.bind_some] at h
                rcases numeralF_le hnu h3 with rfl|rfl
                · rw [if_neg (Nat.lt_irrefl _)] at h
                  cases hsg:signF s e c with
                  |none=>rw [hsg] at h;simp at h
                  | some x=>
                    rw [hsg] at h
                    simp only [Option.bind_some,Option.some.injEq] at h
                    subst h
                    by_cases h4:c=47
                    · rcases Nat.eq_zero_or_pos i with rfl|hpos
                      · exact next_signs_z hG hsa hs h3 hz h10 hl h34 h4 (h47 h4) hnu hsg
                      · exact next_signs_p hG hpos hi hsa hs h3 hz h10 hl h34 h4 (h47 h4) hnu hsg
                    · rcases Nat.eq_zero_or_pos i with rfl|hpos
                      · exact next_signn_z hG hsa hs h3 hz h10 hl h34 h4 hnu hsg
                      · exact next_signn_p hG hpos hi hsa hs h3 hz h10 hl h34 h4 hnu hsg
                · rw [if_pos (Nat.lt_succ_self _)] at h
                  by_cases hcc:c=49∨c=50
                  · rw [if_pos hcc] at h
                    simp only [Option.some.injEq] at h
                    subst h
                    have h4:¬c=47:=by omega
                    rcases Nat.eq_zero_or_pos i with rfl|hpos
                    · exact next_numn_z hG hsa hs h3 hz h10 hl h34 h4 hnu hcc
                    · exact next_numn_p hG hpos hi hsa hs h3 hz h10 hl h34 h4 hnu hcc
                  · rw [if_neg hcc] at h
                    simp at h
            · rw [hop] at h
              simp only [if_true] at h
              simp only [Bool.and_eq_true,decide_eq_true_eq] at hop
              obtain ⟨hc7,ho7⟩:=hop
              subst hc7 ho7
              rw [regexF] at h
              cases hce:closesF s 47 (s.size+1) (a+1) with
              |none=>rw [hce] at h;simp at h
              | some e=>
                rw [hce] at h
                simp only [Option.bind_eq_bind,Option.bind_some] at h
                cases hpl:plainF (s.extract (a+1) e)
                · rw [hpl] at h;simp at h
                · rw [hpl] at h
                  simp only [if_true,Option.some.injEq] at h
                  subst h
                  rcases Nat.eq_zero_or_pos i with rfl|hpos
                  · exact next_regex_z hG hsa hs h3 hz hce hpl
                  · exact next_regex_p hG hpos hi hsa hs h3 hz hce hpl
        · rw [hl] at h
          simp only [if_true] at h
          cases hwe:wordEndF s (s.size+1) a with
          |none=>rw [hwe] at h;simp at h
          | some e=>
            rw [hwe] at h
            simp only [Option.bind_some,Option.some.injEq] at h
            subst h
            rcases Nat.eq_zero_or_pos i with rfl|hpos
            · exact next_word_z hG hsa hs h3 hz h10 hl hwe
            · exact next_word_p hG hpos hi hsa hs h3 hz h10 hl hwe
    · rw [nth_none (by omega)] at h
      obtain rfl:=Option.some.inj h
      have he:a=s.size:=by omega
      rcases Nat.eq_zero_or_pos i with rfl|hpos
      · exact next_end_z hG hsa hs he
      · exact next_end_p hG hpos hi hsa hs he
end Go.Proofs.YteafcepaolofpaaGreatDoor
end
section
/- The parser's small functions: ok, peek, is, walked, where nothing is wrong. -/
namespace Go.Proofs.YteafcepaolofpaaGreatDoor
open Go.RowKit

/-- Where the parser stands. -/
structure PSt where
  pos:Nat
  opn:Int
  ng:Bool

abbrev parC(s:ByteArray)(st:PSt):Obj:= .cells #[.string s,.int .i64 st.pos,.int .i64 st.opn,.bool st.ng,.int .i64 0,.complex .f64 0 0] 106

/-- The parser at p stands so, and nothing was wrong. -/
structure PP (s:ByteArray) (p:Nat) (st:PSt) (w:World):Prop where
  gl:Gl w
  row:w.heap[p]? =some (parC s st)
  p:13<p
  size:s.size≤4096
  le:st.pos≤s.size
  ob: -100≤st.opn∧st.opn≤40
theorem PP.keep{s:ByteArray}{p:Nat}{st:PSt}{w w':World}(h:PP s p st w)(hk:Keeps [] w w'):PP s p st w':=
  ⟨h.gl.keep hk (by simp),hk.at h.row (by simp),h.p,h.size,h.le,h.ob⟩

theorem nextF_le{s : ByteArray}{i:Nat}{op:Bool}{t:Tok}(h:nextF s i op=some t)(hi:i≤s.size):t.fr≤t.to∧t.to≤s.size∧t.text.size≤s.size:=by
  have hm:min i s.size=i:=by omega
  have hb:(bs []).size=0:=rfl
  rw [nextF,hm] at h
  cases hsk:skipF s (s.size+1) i with
  |none=>rw [hsk] at h;simp at h
  | some a=>
    rw [hsk] at h
    simp only [Option.bind_eq_bind,Option.bind_some] at h
    have hale:=(skipF_le hsk).2 hi
    by_cases h3:a<s.size
    · rw [nth_some h3] at h
      simp only at h
      split at h
      · obtain rfl:=Option.some.inj h
        simp only;omega
      · split at h
        · cases hwe:wordEndF s (s.size+1) a with
          |none=>rw [hwe] at h;simp at h
          | some e=>
            rw [hwe] at h
            simp only [Option.bind_some,Option.some.injEq] at h
            subst h
            have:=wordEndF_le hwe
            simp only [ByteArray.size_extract];omega
        · split at h
          · rw [textF] at h
            cases hce:closesF s 34 (s.size+1) (a+1) with
            |none=>rw [hce] at h;simp at h
            | some e=>
              rw [hce] at h
              simp only [Option.bind_eq_bind,Option.bind_some] at h
              split at h
              · obtain rfl:=Option.some.inj h
                have:=closesF_lt hce
                simp only [ByteArray.size_extract];omega
              · cases h
          · split at h
            · rw [regexF] at h
              cases hce:closesF s 47 (s.size+1) (a+1) with
              |none=>rw [hce] at h;simp at h
              | some e=>
                rw [hce] at h
                simp only [Option.bind_eq_bind,Option.bind_some] at h
                split at h
                · obtain rfl:=Option.some.inj h
                  have:=closesF_lt hce
                  simp only [ByteArray.size_extract];omega
                · cases h
            · rw [otherF] at h
              cases hnu:numeralF s a with
              |none=>rw [hnu] at h;simp at h
              | some e=>
                rw [hnu] at h
                simp only [Option.bind_eq_bind,Option.bind_some] at h
                have hle:=numeralF_le hnu h3
                split at h
                · split at h
                  · obtain rfl:=Option.some.inj h
                    simp only [ByteArray.size_extract];omega
                  · cases h
                · cases hsg:signF s a ((s[a]'h3).toNat:Int) with
                  |none=>rw [hsg] at h;simp at h
                  | some x=>
                    rw [hsg] at h
                    simp only [Option.bind_some,Option.some.injEq] at h
                    subst h
                    have h2:=signF_pos hsg h3
                    have h4:a+x.size≤s.size:=by
                      unfold signF at hsg
                      split at hsg
                      · rename_i hc
                        simp at hc
                        obtain rfl:=Option.some.inj hsg
                        rw [ByteArray.size_extract];omega
                      · split at hsg
                        · obtain rfl:=Option.some.inj hsg
                          rw [ByteArray.size_extract];omega
                        · cases hsg
                    simp only;omega
    · rw [nth_none (by omega)] at h
      obtain rfl:=Option.some.inj h
      simp only;omega

theorem ok_any{s:ByteArray}{p:Nat}{st:PSt}{w:World}(h:PP s p st w):Calls Tryz.prog 47 #[.pointer (some ⟨p,0,none⟩)] w fun r w'=>r= .returned (.bool true)∧w'=w:=by
  have c4:=cell_of_heap h.row 4
  simp at c4
  have hlt:=h_lt h.row
  clear h
  go_enter Tryz.func47,Tryz.ntmps47
  go_wp2_with fail
  go_ret
  exact ⟨rfl,rfl⟩

set_option maxHeartbeats 1000000 in
theorem peek_any{s:ByteArray}{p:Nat}{st:PSt}{w:World}(h:PP s p st w){i:Nat}{t:Tok}(ht:nextF s i false=some t)(hi:i≤s.size):
    Calls Tryz.prog 76 #[.pointer (some ⟨p,0,none⟩),.int .i64 i] w fun r w'=>r= .returned (.tuple #[tokV t,.bool true])∧Keeps [] w w':=by
  have c0:=cell_of_heap h.row 0
  simp at c0
  have hlt:=h_lt h.row
  have hN:=fun W (hG:Gl W)=>next_any hG ht hi (by have:=h.size;omega)
  have HG:=Lib.hid h.gl;have HN:=Lib.hid hN
  clear h hN ht
  obtain ⟨kd,tx,nm,fr,te⟩:=t
  go_enter Tryz.func76,Tryz.ntmps76
  go_wp2_with fail
  refine (HN.out _ (HG.out.keep (Keeps.alloc [] w (tokC 0 ⟨#[]⟩ 0 0 0)) (by simp))).mono ?_
  rintro r w1 ⟨rfl,hk1⟩
  have hq1:=hk1.at (h_new w (tokC 0 ⟨#[]⟩ 0 0 0)) (by simp)
  have HQ1:=Lib.hid hq1;have HK1:=Lib.hid ((Keeps.alloc [] w (tokC 0 ⟨#[]⟩ 0 0 0)).trans hk1 (by simp))
  clear hq1 hk1
  go_wp2_with ((with_reducible show wpList _ _ _ (Oper.mk none (.store 109 _ _) _ _ _ _::_) _ _);refine stT 109 w1.heap.size 0 _ (h_new _ _) rfl (.agg #[.int .i64 kd,.string tx,.float .f64 nm,.int .i64 fr,.int .i64 te]) rfl (by kernel_rfl) (by simp [Value.cells]) (by simp [Value.cells,Value.oneCell']) ?_)
  intro w2 hs2
  have x0:=cell_of_heap hs2.row 0
  have x1:=cell_of_heap hs2.row 1
  have x2:=cell_of_heap hs2.row 2
  have x3:=cell_of_heap hs2.row 3
  have x4:=cell_of_heap hs2.row 4
  simp at x0 x1 x2 x3 x4
  have hsz1:=HK1.out.size
  have HQ2:=Lib.hid (hs2.at (h_alloc (o:=tokC 0 ⟨#[]⟩ 0 0 0) HQ1.out) (by have:=h_lt HQ1.out;omega))
  have HK2:=Lib.hid ((HK1.out.trans (Keeps.alloc [] w1 (tokC 0 ⟨#[]⟩ 0 0 0)) (by simp)).trans hs2.keeps (by simp;exact hsz1))
  clear hs2
  go_wp2_with ((with_reducible show wpList _ _ _ (Oper.mk none (.store 109 _ _) _ _ _ _::_) _ _);refine stT 109 w.heap.size 0 _ HQ2.out rfl (.agg #[.int .i64 kd,.string tx,.float .f64 nm,.int .i64 fr,.int .i64 te]) rfl (by kernel_rfl) (by simp [Value.cells]) (by simp [Value.cells,Value.oneCell']) ?_)
  intro w3 hs3
  have y0:=cell_of_heap hs3.row 0
  have y1:=cell_of_heap hs3.row 1
  have y2:=cell_of_heap hs3.row 2
  have y3:=cell_of_heap hs3.row 3
  have y4:=cell_of_heap hs3.row 4
  simp at y0 y1 y2 y3 y4
  have HK3:=Lib.hid (HK2.out.trans hs3.keeps (by simp))
  clear hs3 x0 x1 x2 x3 x4
  go_wp2_with fail
  exact bodyPost_ret (v:= .tuple #[.agg #[.int .i64 kd,.string tx,.float .f64 nm,.int .i64 fr,.int .i64 te],.bool true]) (by simp [results,Tryz.results76,go_sem,y0,y1,y2,y3,y4]) rfl ⟨rfl,HK3.out⟩
end Go.Proofs.YteafcepaolofpaaGreatDoor
end
section
/- The parser's small functions, walked, where nothing is wrong. Made by a program (mkP.py). -/
namespace Go.Proofs.YteafcepaolofpaaGreatDoor
open Go.RowKit

/-- Is it that sign, or word? -/
def isT(t:Tok)(x:ByteArray):Bool:=(t.kind==9||t.kind==8)&&same t.text x

set_option maxHeartbeats 2000000 in
theorem is_any{s:ByteArray}{p:Nat}{st:PSt}{w:World}(h:PP s p st w){t:Tok}(ht:nextF s st.pos false=some t)(x:ByteArray):
    Calls Tryz.prog 79 #[.pointer (some ⟨p,0,none⟩),.string x] w fun r w'=>r= .returned (.bool (isT t x))∧Keeps [] w w':=by
  have c1:=cell_of_heap h.row 1
  simp at c1
  have hlt:=h_lt h.row
  have H:=Lib.hid h;have HT:=Lib.hid ht
  clear h ht
  obtain ⟨kd,tx,nm,fr,te⟩:=t
  have hsq:=same_eq tx x
  by_cases h9:kd=9
  · have hv:isT ⟨kd,tx,nm,fr,te⟩ x=same tx x:=by simp [isT,h9]
    rw [hv];clear hv
    subst h9
    go_enter Tryz.func79,Tryz.ntmps79
    go_wp2_with fail
    refine (ok_any H.out).mono ?_
    rintro r w' ⟨rfl,hw'⟩
    rw [hw']
    clear hw'
    go_wp2_with fail
    refine (peek_any H.out HT.out H.out.le).mono ?_
    rintro r w1 ⟨rfl,hk1⟩
    have HK1:=Lib.hid hk1
    clear hk1
    go_wp2_with ((with_reducible show wpList _ _ _ (Oper.mk none (.store 109 _ _) _ _ _ _::_) _ _);refine stT 109 w1.heap.size 0 _ (h_new _ _) rfl (.agg #[.int .i64 9,.string tx,.float .f64 nm,.int .i64 fr,.int .i64 te]) rfl (by kernel_rfl) (by simp [Value.cells]) (by simp [Value.cells,Value.oneCell']) ?_)
    intro w2 hs2
    have x0:=cell_of_heap hs2.row 0
    have x1:=cell_of_heap hs2.row 1
    have x2:=cell_of_heap hs2.row 2
    have x3:=cell_of_heap hs2.row 3
    have x4:=cell_of_heap hs2.row 4
    simp at x0 x1 x2 x3 x4
    have hsz2:=HK1.out.size
    have HTR2:=Lib.hid hs2.row
    have hst2:Keeps [] w1 w2:=(Keeps.alloc [] w1 (tokC 0 ⟨#[]⟩ 0 0 0)).trans hs2.keeps (by simp)
    have HST2:=Lib.hid hst2
    have HK2:=Lib.hid (HK1.out.trans hst2 (by simp))
    clear hs2 hst2

    go_wp2_with fail
    go_ret
    exact ⟨rfl,HK2.out⟩
  · have n9:(kd==9)=false:=beq_false_of_ne h9
    by_cases h8:kd=8
    · have hv:isT ⟨kd,tx,nm,fr,te⟩ x=same tx x:=by simp [isT,h8]
      rw [hv];clear hv
      subst h8
      clear n9 h9
      go_enter Tryz.func79,Tryz.ntmps79
      go_wp2_with fail
      refine (ok_any H.out).mono ?_
      rintro r w' ⟨rfl,hw'⟩
      rw [hw']
      clear hw'
      go_wp2_with fail
      refine (peek_any H.out HT.out H.out.le).mono ?_
      rintro r w1 ⟨rfl,hk1⟩
      have HK1:=Lib.hid hk1
      clear hk1
      go_wp2_with ((with_reducible show wpList _ _ _ (Oper.mk none (.store 109 _ _) _ _ _ _::_) _ _);refine stT 109 w1.heap.size 0 _ (h_new _ _) rfl (.agg #[.int .i64 8,.string tx,.float .f64 nm,.int .i64 fr,.int .i64 te]) rfl (by kernel_rfl) (by simp [Value.cells]) (by simp [Value.cells,Value.oneCell']) ?_)
      intro w2 hs2
      have x0:=cell_of_heap hs2.row 0
      have x1:=cell_of_heap hs2.row 1
      have x2:=cell_of_heap hs2.row 2
      have x3:=cell_of_heap hs2.row 3
      have x4:=cell_of_heap hs2.row 4
      simp at x0 x1 x2 x3 x4
      have hsz2:=HK1.out.size
      have HTR2:=Lib.hid hs2.row
      have hst2:Keeps [] w1 w2:=(Keeps.alloc [] w1 (tokC 0 ⟨#[]⟩ 0 0 0)).trans hs2.keeps (by simp)
      have HST2:=Lib.hid hst2
      have HK2:=Lib.hid (HK1.out.trans hst2 (by simp))
      clear hs2 hst2

      go_wp2_with fail
      go_ret
      exact ⟨rfl,HK2.out⟩
    · have n8:(kd==8)=false:=beq_false_of_ne h8
      have hv:isT ⟨kd,tx,nm,fr,te⟩ x=false:=by simp [isT,h8,h9]
      rw [hv];clear hv
      clear h8 h9
      go_enter Tryz.func79,Tryz.ntmps79
      go_wp2_with fail
      refine (ok_any H.out).mono ?_
      rintro r w' ⟨rfl,hw'⟩
      rw [hw']
      clear hw'
      go_wp2_with fail
      refine (peek_any H.out HT.out H.out.le).mono ?_
      rintro r w1 ⟨rfl,hk1⟩
      have HK1:=Lib.hid hk1
      clear hk1
      go_wp2_with ((with_reducible show wpList _ _ _ (Oper.mk none (.store 109 _ _) _ _ _ _::_) _ _);refine stT 109 w1.heap.size 0 _ (h_new _ _) rfl (.agg #[.int .i64 kd,.string tx,.float .f64 nm,.int .i64 fr,.int .i64 te]) rfl (by kernel_rfl) (by simp [Value.cells]) (by simp [Value.cells,Value.oneCell']) ?_)
      intro w2 hs2
      have x0:=cell_of_heap hs2.row 0
      have x1:=cell_of_heap hs2.row 1
      have x2:=cell_of_heap hs2.row 2
      have x3:=cell_of_heap hs2.row 3
      have x4:=cell_of_heap hs2.row 4
      simp at x0 x1 x2 x3 x4
      have hsz2:=HK1.out.size
      have HTR2:=Lib.hid hs2.row
      have hst2:Keeps [] w1 w2:=(Keeps.alloc [] w1 (tokC 0 ⟨#[]⟩ 0 0 0)).trans hs2.keeps (by simp)
      have HST2:=Lib.hid hst2
      have HK2:=Lib.hid (HK1.out.trans hst2 (by simp))
      clear hs2 hst2

      go_wp2_with fail
      go_ret
      exact ⟨rfl,HK2.out⟩

set_option maxHeartbeats 2000000 in
theorem place_tok{s:ByteArray}{p:Nat}{st:PSt}{w:World}(h:PP s p st w)(t:Tok)(hf:t.fr≤s.size):
    Calls Tryz.prog 152 #[.pointer (some ⟨p,0,none⟩),tokV t] w fun r w'=>r= .returned (.complex .f64 (placeOf s t.fr).1 (placeOf s t.fr).2)∧Keeps [] w w':=by
  have c0:=cell_of_heap h.row 0
  simp at c0
  have hlt:=h_lt h.row
  have hpl:=fun W=>place_any hf (by have:=h.size;omega) W
  have HPL:=Lib.hid hpl
  clear h hpl
  obtain ⟨kd,tx,nm,fr,te⟩:=t
  go_enter Tryz.func152,Tryz.ntmps152
  go_upto_region 1 with fail
  go_quiet ((go_at_call 123;refine Calls.quiet_of_same (HPL.out _)))
  go_wp2_with fail
  go_ret
  exact ⟨rfl,(Keeps.alloc [] w _).trans (Keeps.drewN [] _ nq) (by simp)⟩

set_option maxHeartbeats 2000000 in
theorem take_no{s:ByteArray}{p:Nat}{st:PSt}{w:World}(h:PP s p st w){t:Tok}(ht:nextF s st.pos false=some t){x:ByteArray}(hx:isT t x=false):
    Calls Tryz.prog 125 #[.pointer (some ⟨p,0,none⟩),.string x] w fun r w'=>r= .returned (.bool false)∧Keeps [] w w':=by
  have hi:=is_any h ht x
  rw [hx] at hi
  have HI:=Lib.hid hi
  clear hi hx ht h
  go_enter Tryz.func125,Tryz.ntmps125
  go_wp2_with fail
  refine HI.out.mono ?_
  rintro r w' ⟨rfl,hk⟩
  go_wp2_with fail
  go_ret
  exact ⟨rfl,hk⟩
end Go.Proofs.YteafcepaolofpaaGreatDoor
end
