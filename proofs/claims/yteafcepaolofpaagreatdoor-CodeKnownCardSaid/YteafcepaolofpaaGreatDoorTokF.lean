/- Next, walked. Made by a program (mkF.py). -/
import Derived.Test.YteafcepaolofpaaGreatDoorTokE
set_option maxRecDepth 100000
set_option maxHeartbeats 4000000
set_option linter.unusedSimpArgs false
set_option linter.unusedVariables false
set_option linter.unusedSectionVars false
namespace Go.Proofs.YteafcepaolofpaaGreatDoor
open Go.RowKit

abbrev tokV(t:Tok):Value:= .agg #[.int .i64 t.kind,.string t.text,.float .f64 t.num,.int .i64 t.fr,.int .i64 t.to]
abbrev tokC(kind:Int)(text:ByteArray)(num:Nat)(fr te:Int):Obj:= .cells #[.int .i64 kind,.string text,.float .f64 num,.int .i64 fr,.int .i64 te] 109

theorem skipF_le{s:ByteArray}:∀{f i r:Nat},skipF s f i=some r→i≤r∧(i≤s.size→r≤s.size)
  |0,_,_,h=>by simp [skipF] at h
  | f + 1,i,r,h=>by
    rw [skipF] at h
    by_cases hi:i<s.size
    · rw [nth_some hi] at h
      simp only at h
      split at h
      · have:=skipF_le h;omega
      · split at h
        · cases h
        · have:=Option.some.inj h;omega
    · rw [nth_none (by omega)] at h
      have:=Option.some.inj h;omega
theorem wordEndF_le{s:ByteArray}:∀{f i r:Nat},wordEndF s f i=some r→i≤r∧(i≤s.size→r≤s.size)
  |0,_,_,h=>by simp [wordEndF] at h
  | f +1,i,r,h=>by
    rw [wordEndF] at h
    by_cases hi:i<s.size
    · rw [nth_some hi] at h
      simp only at h
      split at h
      · have:=wordEndF_le h;omega
      · have:=Option.some.inj h;omega
    · rw [nth_none (by omega)] at h
      have:=Option.some.inj h;omega
theorem closesF_lt{s:ByteArray}{q:Int}:∀{f i r:Nat},closesF s q f i=some r→i≤r∧r<s.size
  |0,_,_,h=>by simp [closesF] at h
  | f + 1,i,r,h=>by
    rw [closesF] at h
    by_cases hi:i<s.size
    · rw [nth_some hi] at h
      simp only at h
      split at h
      · cases h
      · split at h
        · have:=Option.some.inj h;omega
        · split at h
          · cases h
          · have:=closesF_lt h;omega
    · rw [nth_none (by omega)] at h
      cases h
theorem numeralF_le{s:ByteArray}{i e:Nat}(h:numeralF s i=some e)(hi:i<s.size):e=i∨e=i+1:=by
  rw [numeralF,nth_some hi] at h
  simp only at h
  split at h
  · split at h
    · exact .inr (Option.some.inj h).symm
    · split at h
      · cases h
      · exact .inr (Option.some.inj h).symm
  · split at h
    · cases h
    · exact .inl (Option.some.inj h).symm
theorem signF_pos{s:ByteArray}{i:Nat}{c:Int}{x:ByteArray}(h:signF s i c=some x)(hi:i<s.size):0<x.size∧x.size≤2:=by
  unfold signF at h
  split at h
  · rename_i hc
    simp at hc
    obtain rfl:=Option.some.inj h
    rw [ByteArray.size_extract];omega
  · split at h
    · obtain rfl:=Option.some.inj h
      rw [ByteArray.size_extract];omega
    · cases h
theorem ne_nil{x:ByteArray}(h:0<x.size):(x.toList==(⟨#[]⟩:ByteArray).toList)=false:=by
  rw [same_eq]
  cases hb:same x ⟨#[]⟩
  · rfl
  · have:=same_iff.1 hb
    subst this
    exact absurd h (by decide)
theorem extract_one{s:ByteArray}{a:Nat}(h:a<s.size)(h0:0<(s.extract a (a+1)).size):(s.extract a (a+1))[0]'h0=s[a]'h:=by
  rw [ByteArray.getElem_extract];simp
theorem gtF{c:Int}(h:c=49∨c=50):(FloatKind.f64.format.order (flt (c -48).toNat) 9218868437227405311==some Ordering.gt)=false:=by
  rcases h with rfl|rfl<;>kernel_rfl
set_option maxRecDepth 1000000 in
theorem next_end_z{w:World}(hG:Gl w){s:ByteArray}{a:Nat}{op:Bool} 
    (hsa:∀W,Calls Tryz.prog 112 #[.string s,.int .i64 0] W fun e w'=>e= .returned (.int .i64 a)∧w'=W) (hs:s.size≤100000) (hale:a=s.size):
    Calls Tryz.prog 77 #[.string s,.int .i64 0,.bool op] w fun r w'=>r= .returned (.tuple #[tokV ⟨0,bs [],0,a,a⟩,.int .i64 0])∧Keeps [] w w':=by
  have HSA:=Lib.hid hsa;have HG:=Lib.hid hG
  clear hsa hG
  subst hale
  go_enter Tryz.func77,Tryz.ntmps77
  go_wp2_with fail
  refine (HSA.out _).mono ?_
  rintro r w1 ⟨rfl,rfl⟩
  go_wp2_with ((with_reducible show wpList _ _ _ (Oper.mk none (.store 109 _ _) _ _ _ _::_) _ _);refine stT 109 (w.heap.size+1) 0 _ (show _=some (tokC 0 ⟨#[]⟩ 0 0 0) from (by have:=h_new (w.alloc (tokC 0 ⟨#[]⟩ 0 0 0)) (tokC 0 ⟨#[]⟩ 0 0 0);simpa using this)) rfl (.agg #[.int .i64 0,.string ⟨#[]⟩,.float .f64 0,.int .i64 s.size,.int .i64 s.size]) rfl (by kernel_rfl) (by simp [Value.cells]) (by simp [Value.cells,Value.oneCell']) ?_)
  intro w2 hs2
  have hr2:=hs2.row
  have hz2:=hs2.size
  simp at hr2 hz2
  have hk2:Keeps [] w w2:=((Keeps.alloc [] w (tokC 0 ⟨#[]⟩ 0 0 0)).trans (Keeps.alloc [] _ (tokC 0 ⟨#[]⟩ 0 0 0)) (by simp)).trans hs2.keeps (by simp)
  have hq2:=hs2.at (h_alloc (o:=tokC 0 ⟨#[]⟩ 0 0 0) (h_new w (tokC 0 ⟨#[]⟩ 0 0 0))) (by omega)
  have HR2:=Lib.hid hr2;have HK2:=Lib.hid hk2;have HQ2:=Lib.hid hq2
  clear hs2 hr2 hk2 hq2
  go_wp2_with ((with_reducible show wpList _ _ _ (Oper.mk none (.store 109 _ _) _ _ _ _::_) _ _);refine stT 109 (w.heap.size+2) 0 _ (show _=some (tokC 0 ⟨#[]⟩ 0 0 0) from (by have:=h_new w2 (tokC 0 ⟨#[]⟩ 0 0 0);rw [hz2] at this;exact this)) (by first|rfl|simp [hz2]) (.agg #[.int .i64 0,.string ⟨#[]⟩,.float .f64 0,.int .i64 s.size,.int .i64 0]) rfl (by kernel_rfl) (by simp [Value.cells]) (by simp [Value.cells,Value.oneCell']) ?_)
  intro w3 hs3
  have hq3:=hs3.at (h_alloc (o:=tokC 0 ⟨#[]⟩ 0 0 0) HQ2.out) (by omega)
  have hr3:=hs3.at (h_alloc (o:=tokC 0 ⟨#[]⟩ 0 0 0) HR2.out) (by omega)
  have hk3:Keeps [] w w3:=(HK2.out.trans (Keeps.alloc [] w2 (tokC 0 ⟨#[]⟩ 0 0 0)) (by simp)).trans hs3.keeps (by simp)
  clear hs3 hz2 HR2 HK2 HQ2
  have HG3:=Lib.hid (HG.out.keep hk3 (by simp))
  have HQ3:=Lib.hid hq3;have HR3:=Lib.hid hr3;have HK3:=Lib.hid hk3
  clear hq3 hr3 hk3 HSA HG
  generalize hRR:w.heap.size=R at*
  have HRW:Hid (w.heap.size=R):=Lib.hid hRR
  clear hRR
  have d0:=cell_of_heap HR3.out 0
  have df0:=frozen_of_heap HR3.out 0
  have d1:=cell_of_heap HR3.out 1
  have df1:=frozen_of_heap HR3.out 1
  have d2:=cell_of_heap HR3.out 2
  have df2:=frozen_of_heap HR3.out 2
  have d3:=cell_of_heap HR3.out 3
  have df3:=frozen_of_heap HR3.out 3
  have d4:=cell_of_heap HR3.out 4
  have df4:=frozen_of_heap HR3.out 4
  simp at d0 d1 d2 d3 d4
  go_wp2_with ((with_reducible show wpList _ _ _ (Oper.mk none (.store 109 _ _) _ _ _ _::_) _ _);refine stT 109 R 0 _ HQ3.out rfl (.agg #[.int .i64 0,.string ⟨#[]⟩,.float .f64 0,.int .i64 s.size,.int .i64 s.size]) rfl (by kernel_rfl) (by simp [Value.cells]) (by simp [Value.cells,Value.oneCell']) ?_)
  intro w9 hs9
  have x0:=cell_of_heap hs9.row 0
  have x1:=cell_of_heap hs9.row 1
  have x2:=cell_of_heap hs9.row 2
  have x3:=cell_of_heap hs9.row 3
  have x4:=cell_of_heap hs9.row 4
  simp at x0 x1 x2 x3 x4
  have hk9:Keeps [] w w9:=Keeps.trans HK3.out hs9.keeps (by simp [HRW.out])
  clear hs9
  go_wp2_with fail
  exact bodyPost_ret (v:= .tuple #[.agg #[.int .i64 0,.string ⟨#[]⟩,.float .f64 0,.int .i64 s.size,.int .i64 s.size],.int .i64 0]) (by simp [results,Tryz.results77,go_sem,x0,x1,x2,x3,x4]) rfl ⟨rfl,hk9⟩

set_option maxRecDepth 1000000 in
theorem next_end_p{w:World}(hG:Gl w){s:ByteArray}{i a:Nat}{op:Bool}  (hpos:0<i) (hi:i≤s.size)
    (hsa:∀W,Calls Tryz.prog 112 #[.string s,.int .i64 i] W fun e w'=>e= .returned (.int .i64 a)∧w'=W) (hs:s.size≤100000) (hale:a=s.size):
    Calls Tryz.prog 77 #[.string s,.int .i64 i,.bool op] w fun r w'=>r= .returned (.tuple #[tokV ⟨0,bs [],0,a,a⟩,.int .i64 0])∧Keeps [] w w':=by
  have HSA:=Lib.hid hsa;have HG:=Lib.hid hG
  clear hsa hG
  subst hale
  go_enter Tryz.func77,Tryz.ntmps77
  go_wp2_with fail
  refine (HSA.out _).mono ?_
  rintro r w1 ⟨rfl,rfl⟩
  go_wp2_with ((with_reducible show wpList _ _ _ (Oper.mk none (.store 109 _ _) _ _ _ _::_) _ _);refine stT 109 (w.heap.size+1) 0 _ (show _=some (tokC 0 ⟨#[]⟩ 0 0 0) from (by have:=h_new (w.alloc (tokC 0 ⟨#[]⟩ 0 0 0)) (tokC 0 ⟨#[]⟩ 0 0 0);simpa using this)) rfl (.agg #[.int .i64 0,.string ⟨#[]⟩,.float .f64 0,.int .i64 s.size,.int .i64 s.size]) rfl (by kernel_rfl) (by simp [Value.cells]) (by simp [Value.cells,Value.oneCell']) ?_)
  intro w2 hs2
  have hr2:=hs2.row
  have hz2:=hs2.size
  simp at hr2 hz2
  have hk2:Keeps [] w w2:=((Keeps.alloc [] w (tokC 0 ⟨#[]⟩ 0 0 0)).trans (Keeps.alloc [] _ (tokC 0 ⟨#[]⟩ 0 0 0)) (by simp)).trans hs2.keeps (by simp)
  have hq2:=hs2.at (h_alloc (o:=tokC 0 ⟨#[]⟩ 0 0 0) (h_new w (tokC 0 ⟨#[]⟩ 0 0 0))) (by omega)
  have HR2:=Lib.hid hr2;have HK2:=Lib.hid hk2;have HQ2:=Lib.hid hq2
  clear hs2 hr2 hk2 hq2
  go_wp2_with ((with_reducible show wpList _ _ _ (Oper.mk none (.store 109 _ _) _ _ _ _::_) _ _);refine stT 109 (w.heap.size+2) 0 _ (show _=some (tokC 0 ⟨#[]⟩ 0 0 0) from (by have:=h_new w2 (tokC 0 ⟨#[]⟩ 0 0 0);rw [hz2] at this;exact this)) (by first|rfl|simp [hz2]) (.agg #[.int .i64 0,.string ⟨#[]⟩,.float .f64 0,.int .i64 s.size,.int .i64 0]) rfl (by kernel_rfl) (by simp [Value.cells]) (by simp [Value.cells,Value.oneCell']) ?_)
  intro w3 hs3
  have hq3:=hs3.at (h_alloc (o:=tokC 0 ⟨#[]⟩ 0 0 0) HQ2.out) (by omega)
  have hr3:=hs3.at (h_alloc (o:=tokC 0 ⟨#[]⟩ 0 0 0) HR2.out) (by omega)
  have hk3:Keeps [] w w3:=(HK2.out.trans (Keeps.alloc [] w2 (tokC 0 ⟨#[]⟩ 0 0 0)) (by simp)).trans hs3.keeps (by simp)
  clear hs3 hz2 HR2 HK2 HQ2
  have HG3:=Lib.hid (HG.out.keep hk3 (by simp))
  have HQ3:=Lib.hid hq3;have HR3:=Lib.hid hr3;have HK3:=Lib.hid hk3
  clear hq3 hr3 hk3 HSA HG
  generalize hRR:w.heap.size=R at*
  have HRW:Hid (w.heap.size=R):=Lib.hid hRR
  clear hRR
  have d0:=cell_of_heap HR3.out 0
  have df0:=frozen_of_heap HR3.out 0
  have d1:=cell_of_heap HR3.out 1
  have df1:=frozen_of_heap HR3.out 1
  have d2:=cell_of_heap HR3.out 2
  have df2:=frozen_of_heap HR3.out 2
  have d3:=cell_of_heap HR3.out 3
  have df3:=frozen_of_heap HR3.out 3
  have d4:=cell_of_heap HR3.out 4
  have df4:=frozen_of_heap HR3.out 4
  simp at d0 d1 d2 d3 d4
  go_wp2_with ((with_reducible show wpList _ _ _ (Oper.mk none (.store 109 _ _) _ _ _ _::_) _ _);refine stT 109 R 0 _ HQ3.out rfl (.agg #[.int .i64 0,.string ⟨#[]⟩,.float .f64 0,.int .i64 s.size,.int .i64 s.size]) rfl (by kernel_rfl) (by simp [Value.cells]) (by simp [Value.cells,Value.oneCell']) ?_)
  intro w9 hs9
  have x0:=cell_of_heap hs9.row 0
  have x1:=cell_of_heap hs9.row 1
  have x2:=cell_of_heap hs9.row 2
  have x3:=cell_of_heap hs9.row 3
  have x4:=cell_of_heap hs9.row 4
  simp at x0 x1 x2 x3 x4
  have hk9:Keeps [] w w9:=Keeps.trans HK3.out hs9.keeps (by simp [HRW.out])
  clear hs9
  go_wp2_with fail
  exact bodyPost_ret (v:= .tuple #[.agg #[.int .i64 0,.string ⟨#[]⟩,.float .f64 0,.int .i64 s.size,.int .i64 s.size],.int .i64 0]) (by simp [results,Tryz.results77,go_sem,x0,x1,x2,x3,x4]) rfl ⟨rfl,hk9⟩

set_option maxRecDepth 1000000 in
theorem next_nl_z{w:World}(hG:Gl w){s:ByteArray}{a:Nat}{op:Bool}{c:Int}
    (hsa:∀W,Calls Tryz.prog 112 #[.string s,.int .i64 0] W fun e w'=>e= .returned (.int .i64 a)∧w'=W) (hs:s.size≤100000) (h3:a<s.size) (hz:((s[a]'h3).toNat:Int)=c) (h10:c=10):
    Calls Tryz.prog 77 #[.string s,.int .i64 0,.bool op] w fun r w'=>r= .returned (.tuple #[tokV ⟨1,bs [],0,a,a+1⟩,.int .i64 0])∧Keeps [] w w':=by
  have HSA:=Lib.hid hsa;have HG:=Lib.hid hG
  clear hsa hG
  subst h10
  have hale:a≤s.size:=by omega
  go_enter Tryz.func77,Tryz.ntmps77
  go_wp2_with fail
  refine (HSA.out _).mono ?_
  rintro r w1 ⟨rfl,rfl⟩
  go_wp2_with ((with_reducible show wpList _ _ _ (Oper.mk none (.store 109 _ _) _ _ _ _::_) _ _);refine stT 109 (w.heap.size+1) 0 _ (show _=some (tokC 0 ⟨#[]⟩ 0 0 0) from (by have:=h_new (w.alloc (tokC 0 ⟨#[]⟩ 0 0 0)) (tokC 0 ⟨#[]⟩ 0 0 0);simpa using this)) rfl (.agg #[.int .i64 0,.string ⟨#[]⟩,.float .f64 0,.int .i64 a,.int .i64 a]) rfl (by kernel_rfl) (by simp [Value.cells]) (by simp [Value.cells,Value.oneCell']) ?_)
  intro w2 hs2
  have hr2:=hs2.row
  have hz2:=hs2.size
  simp at hr2 hz2
  have hk2:Keeps [] w w2:=((Keeps.alloc [] w (tokC 0 ⟨#[]⟩ 0 0 0)).trans (Keeps.alloc [] _ (tokC 0 ⟨#[]⟩ 0 0 0)) (by simp)).trans hs2.keeps (by simp)
  have hq2:=hs2.at (h_alloc (o:=tokC 0 ⟨#[]⟩ 0 0 0) (h_new w (tokC 0 ⟨#[]⟩ 0 0 0))) (by omega)
  have HR2:=Lib.hid hr2;have HK2:=Lib.hid hk2;have HQ2:=Lib.hid hq2
  clear hs2 hr2 hk2 hq2
  go_wp2_with ((with_reducible show wpList _ _ _ (Oper.mk none (.store 109 _ _) _ _ _ _::_) _ _);refine stT 109 (w.heap.size+2) 0 _ (show _=some (tokC 0 ⟨#[]⟩ 0 0 0) from (by have:=h_new w2 (tokC 0 ⟨#[]⟩ 0 0 0);rw [hz2] at this;exact this)) (by first|rfl|simp [hz2]) (.agg #[.int .i64 0,.string ⟨#[]⟩,.float .f64 0,.int .i64 a,.int .i64 0]) rfl (by kernel_rfl) (by simp [Value.cells]) (by simp [Value.cells,Value.oneCell']) ?_)
  intro w3 hs3
  have hq3:=hs3.at (h_alloc (o:=tokC 0 ⟨#[]⟩ 0 0 0) HQ2.out) (by omega)
  have hr3:=hs3.at (h_alloc (o:=tokC 0 ⟨#[]⟩ 0 0 0) HR2.out) (by omega)
  have hk3:Keeps [] w w3:=(HK2.out.trans (Keeps.alloc [] w2 (tokC 0 ⟨#[]⟩ 0 0 0)) (by simp)).trans hs3.keeps (by simp)
  clear hs3 hz2 HR2 HK2 HQ2
  have HG3:=Lib.hid (HG.out.keep hk3 (by simp))
  have HQ3:=Lib.hid hq3;have HR3:=Lib.hid hr3;have HK3:=Lib.hid hk3
  clear hq3 hr3 hk3 HSA HG
  generalize hRR:w.heap.size=R at*
  have HRW:Hid (w.heap.size=R):=Lib.hid hRR
  clear hRR
  have d0:=cell_of_heap HR3.out 0
  have df0:=frozen_of_heap HR3.out 0
  have d1:=cell_of_heap HR3.out 1
  have df1:=frozen_of_heap HR3.out 1
  have d2:=cell_of_heap HR3.out 2
  have df2:=frozen_of_heap HR3.out 2
  have d3:=cell_of_heap HR3.out 3
  have df3:=frozen_of_heap HR3.out 3
  have d4:=cell_of_heap HR3.out 4
  have df4:=frozen_of_heap HR3.out 4
  simp at d0 d1 d2 d3 d4
  go_wp2_with ((with_reducible show wpList _ _ _ (Oper.mk none (.store 109 _ _) _ _ _ _::_) _ _);refine stT 109 R 0 _ (h_set_ne (by simp) (h_set_ne (by simp) HQ3.out)) rfl (.agg #[.int .i64 1,.string ⟨#[]⟩,.float .f64 0,.int .i64 a,.int .i64 ((a:Int)+1)]) rfl (by kernel_rfl) (by simp [Value.cells]) (by simp [Value.cells,Value.oneCell']) ?_)
  intro w9 hs9
  have x0:=cell_of_heap hs9.row 0
  have x1:=cell_of_heap hs9.row 1
  have x2:=cell_of_heap hs9.row 2
  have x3:=cell_of_heap hs9.row 3
  have x4:=cell_of_heap hs9.row 4
  simp at x0 x1 x2 x3 x4
  have hk9:Keeps [] w w9:=Keeps.trans (Keeps.trans (Keeps.trans HK3.out (fp':= [R+1]) (Keeps.setCell _ _ _ _ (by simp)) (by simp [HRW.out])) (fp':= [R+1]) (Keeps.setCell _ _ _ _ (by simp)) (by simp [HRW.out])) hs9.keeps (by simp [HRW.out])
  clear hs9
  go_wp2_with fail
  exact bodyPost_ret (v:= .tuple #[.agg #[.int .i64 1,.string ⟨#[]⟩,.float .f64 0,.int .i64 a,.int .i64 ((a:Int)+1)],.int .i64 0]) (by simp [results,Tryz.results77,go_sem,x0,x1,x2,x3,x4]) rfl ⟨rfl,hk9⟩

set_option maxRecDepth 1000000 in
theorem next_nl_p{w:World}(hG:Gl w){s:ByteArray}{i a:Nat}{op:Bool}{c:Int}(hpos:0<i)(hi:i≤s.size)
    (hsa:∀W,Calls Tryz.prog 112 #[.string s,.int .i64 i] W fun e w'=>e= .returned (.int .i64 a)∧w'=W) (hs:s.size≤100000) (h3:a<s.size) (hz:((s[a]'h3).toNat:Int)=c) (h10:c=10):
    Calls Tryz.prog 77 #[.string s,.int .i64 i,.bool op] w fun r w'=>r= .returned (.tuple #[tokV ⟨1,bs [],0,a,a+1⟩,.int .i64 0])∧Keeps [] w w':=by
  have HSA:=Lib.hid hsa;have HG:=Lib.hid hG
  clear hsa hG
  subst h10
  have hale:a≤s.size:=by omega
  go_enter Tryz.func77,Tryz.ntmps77
  go_wp2_with fail
  refine (HSA.out _).mono ?_
  rintro r w1 ⟨rfl,rfl⟩
  go_wp2_with ((with_reducible show wpList _ _ _ (Oper.mk none (.store 109 _ _) _ _ _ _::_) _ _);refine stT 109 (w.heap.size+1) 0 _ (show _=some (tokC 0 ⟨#[]⟩ 0 0 0) from (by have:=h_new (w.alloc (tokC 0 ⟨#[]⟩ 0 0 0)) (tokC 0 ⟨#[]⟩ 0 0 0);simpa using this)) rfl (.agg #[.int .i64 0,.string ⟨#[]⟩,.float .f64 0,.int .i64 a,.int .i64 a]) rfl (by kernel_rfl) (by simp [Value.cells]) (by simp [Value.cells,Value.oneCell']) ?_)
  intro w2 hs2
  have hr2:=hs2.row
  have hz2:=hs2.size
  simp at hr2 hz2
  have hk2:Keeps [] w w2:=((Keeps.alloc [] w (tokC 0 ⟨#[]⟩ 0 0 0)).trans (Keeps.alloc [] _ (tokC 0 ⟨#[]⟩ 0 0 0)) (by simp)).trans hs2.keeps (by simp)
  have hq2:=hs2.at (h_alloc (o:=tokC 0 ⟨#[]⟩ 0 0 0) (h_new w (tokC 0 ⟨#[]⟩ 0 0 0))) (by omega)
  have HR2:=Lib.hid hr2;have HK2:=Lib.hid hk2;have HQ2:=Lib.hid hq2
  clear hs2 hr2 hk2 hq2
  go_wp2_with ((with_reducible show wpList _ _ _ (Oper.mk none (.store 109 _ _) _ _ _ _::_) _ _);refine stT 109 (w.heap.size+2) 0 _ (show _=some (tokC 0 ⟨#[]⟩ 0 0 0) from (by have:=h_new w2 (tokC 0 ⟨#[]⟩ 0 0 0);rw [hz2] at this;exact this)) (by first|rfl|simp [hz2]) (.agg #[.int .i64 0,.string ⟨#[]⟩,.float .f64 0,.int .i64 a,.int .i64 0]) rfl (by kernel_rfl) (by simp [Value.cells]) (by simp [Value.cells,Value.oneCell']) ?_)
  intro w3 hs3
  have hq3:=hs3.at (h_alloc (o:=tokC 0 ⟨#[]⟩ 0 0 0) HQ2.out) (by omega)
  have hr3:=hs3.at (h_alloc (o:=tokC 0 ⟨#[]⟩ 0 0 0) HR2.out) (by omega)
  have hk3:Keeps [] w w3:=(HK2.out.trans (Keeps.alloc [] w2 (tokC 0 ⟨#[]⟩ 0 0 0)) (by simp)).trans hs3.keeps (by simp)
  clear hs3 hz2 HR2 HK2 HQ2
  have HG3:=Lib.hid (HG.out.keep hk3 (by simp))
  have HQ3:=Lib.hid hq3;have HR3:=Lib.hid hr3;have HK3:=Lib.hid hk3
  clear hq3 hr3 hk3 HSA HG
  generalize hRR:w.heap.size=R at*
  have HRW:Hid (w.heap.size=R):=Lib.hid hRR
  clear hRR
  have d0:=cell_of_heap HR3.out 0
  have df0:=frozen_of_heap HR3.out 0
  have d1:=cell_of_heap HR3.out 1
  have df1:=frozen_of_heap HR3.out 1
  have d2:=cell_of_heap HR3.out 2
  have df2:=frozen_of_heap HR3.out 2
  have d3:=cell_of_heap HR3.out 3
  have df3:=frozen_of_heap HR3.out 3
  have d4:=cell_of_heap HR3.out 4
  have df4:=frozen_of_heap HR3.out 4
  simp at d0 d1 d2 d3 d4
  go_wp2_with ((with_reducible show wpList _ _ _ (Oper.mk none (.store 109 _ _) _ _ _ _::_) _ _);refine stT 109 R 0 _ (h_set_ne (by simp) (h_set_ne (by simp) HQ3.out)) rfl (.agg #[.int .i64 1,.string ⟨#[]⟩,.float .f64 0,.int .i64 a,.int .i64 ((a:Int)+1)]) rfl (by kernel_rfl) (by simp [Value.cells]) (by simp [Value.cells,Value.oneCell']) ?_)
  intro w9 hs9
  have x0:=cell_of_heap hs9.row 0
  have x1:=cell_of_heap hs9.row 1
  have x2:=cell_of_heap hs9.row 2
  have x3:=cell_of_heap hs9.row 3
  have x4:=cell_of_heap hs9.row 4
  simp at x0 x1 x2 x3 x4
  have hk9:Keeps [] w w9:=Keeps.trans (Keeps.trans (Keeps.trans HK3.out (fp':= [R+1]) (Keeps.setCell _ _ _ _ (by simp)) (by simp [HRW.out])) (fp':= [R+1]) (Keeps.setCell _ _ _ _ (by simp)) (by simp [HRW.out])) hs9.keeps (by simp [HRW.out])
  clear hs9
  go_wp2_with fail
  exact bodyPost_ret (v:= .tuple #[.agg #[.int .i64 1,.string ⟨#[]⟩,.float .f64 0,.int .i64 a,.int .i64 ((a:Int)+1)],.int .i64 0]) (by simp [results,Tryz.results77,go_sem,x0,x1,x2,x3,x4]) rfl ⟨rfl,hk9⟩

set_option maxRecDepth 1000000 in
theorem next_word_z{w:World}(hG:Gl w){s:ByteArray}{a:Nat}{op:Bool}{c:Int}{e:Nat}
    (hsa:∀W,Calls Tryz.prog 112 #[.string s,.int .i64 0] W fun e w'=>e= .returned (.int .i64 a)∧w'=W) (hs:s.size≤100000) (h3:a<s.size) (hz:((s[a]'h3).toNat:Int)=c) (h10:¬c=10) (hl:letterF c=true) (hwe:wordEndF s (s.size+1) a=some e):
    Calls Tryz.prog 77 #[.string s,.int .i64 0,.bool op] w fun r w'=>r= .returned (.tuple #[tokV ⟨kindF s (s.extract a e) e,s.extract a e,0,a,e⟩,.int .i64 0])∧Keeps [] w w':=by
  have HSA:=Lib.hid hsa;have HG:=Lib.hid hG
  clear hsa hG
  have n10:(c==10)=false:=beq_false_of_ne h10
  have hale:a≤s.size:=by omega
  have HE:=Lib.hid hwe
  clear hwe
  go_enter Tryz.func77,Tryz.ntmps77
  go_wp2_with fail
  refine (HSA.out _).mono ?_
  rintro r w1 ⟨rfl,rfl⟩
  go_wp2_with ((with_reducible show wpList _ _ _ (Oper.mk none (.store 109 _ _) _ _ _ _::_) _ _);refine stT 109 (w.heap.size+1) 0 _ (show _=some (tokC 0 ⟨#[]⟩ 0 0 0) from (by have:=h_new (w.alloc (tokC 0 ⟨#[]⟩ 0 0 0)) (tokC 0 ⟨#[]⟩ 0 0 0);simpa using this)) rfl (.agg #[.int .i64 0,.string ⟨#[]⟩,.float .f64 0,.int .i64 a,.int .i64 a]) rfl (by kernel_rfl) (by simp [Value.cells]) (by simp [Value.cells,Value.oneCell']) ?_)
  intro w2 hs2
  have hr2:=hs2.row
  have hz2:=hs2.size
  simp at hr2 hz2
  have hk2:Keeps [] w w2:=((Keeps.alloc [] w (tokC 0 ⟨#[]⟩ 0 0 0)).trans (Keeps.alloc [] _ (tokC 0 ⟨#[]⟩ 0 0 0)) (by simp)).trans hs2.keeps (by simp)
  have hq2:=hs2.at (h_alloc (o:=tokC 0 ⟨#[]⟩ 0 0 0) (h_new w (tokC 0 ⟨#[]⟩ 0 0 0))) (by omega)
  have HR2:=Lib.hid hr2;have HK2:=Lib.hid hk2;have HQ2:=Lib.hid hq2
  clear hs2 hr2 hk2 hq2
  go_wp2_with ((with_reducible show wpList _ _ _ (Oper.mk none (.store 109 _ _) _ _ _ _::_) _ _);refine stT 109 (w.heap.size+2) 0 _ (show _=some (tokC 0 ⟨#[]⟩ 0 0 0) from (by have:=h_new w2 (tokC 0 ⟨#[]⟩ 0 0 0);rw [hz2] at this;exact this)) (by first|rfl|simp [hz2]) (.agg #[.int .i64 0,.string ⟨#[]⟩,.float .f64 0,.int .i64 a,.int .i64 0]) rfl (by kernel_rfl) (by simp [Value.cells]) (by simp [Value.cells,Value.oneCell']) ?_)
  intro w3 hs3
  have hq3:=hs3.at (h_alloc (o:=tokC 0 ⟨#[]⟩ 0 0 0) HQ2.out) (by omega)
  have hr3:=hs3.at (h_alloc (o:=tokC 0 ⟨#[]⟩ 0 0 0) HR2.out) (by omega)
  have hk3:Keeps [] w w3:=(HK2.out.trans (Keeps.alloc [] w2 (tokC 0 ⟨#[]⟩ 0 0 0)) (by simp)).trans hs3.keeps (by simp)
  clear hs3 hz2 HR2 HK2 HQ2
  have HG3:=Lib.hid (HG.out.keep hk3 (by simp))
  have HQ3:=Lib.hid hq3;have HR3:=Lib.hid hr3;have HK3:=Lib.hid hk3
  clear hq3 hr3 hk3 HSA HG
  generalize hRR:w.heap.size=R at*
  have HRW:Hid (w.heap.size=R):=Lib.hid hRR
  clear hRR
  go_wp2_with fail
  refine (letter_any c _).mono ?_
  rintro r w' ⟨rfl,hw'⟩
  rw [hw']
  clear hw'
  rw [hl]
  go_wp2_with fail
  go_loopg [] (s.size -a) (fun g wr=>∃k f:Nat,a≤k∧k≤s.size∧g=s.size -k∧Hid (wordEndF s f k=some e)∧wr.heap[R+1]? =some (tokC 0 ⟨#[]⟩ 0 a k)∧wr.heap[R]? =some (tokC 0 ⟨#[]⟩ 0 0 0)∧Keeps [] w wr)
  case atStart=>exact ⟨a,s.size+1,Nat.le_refl _,hale,rfl,HE,HR3.out,HQ3.out,HK3.out⟩
  case round=>
    obtain ⟨k,f,hak,hks,rfl,HWE,hR,hQ,hK⟩:=hrel
    have HR4:=Lib.hid hR;have HQ4:=Lib.hid hQ;have HK4:=Lib.hid hK
    clear hR hQ hK
    have d0:=cell_of_heap HR4.out 0
    have df0:=frozen_of_heap HR4.out 0
    have d1:=cell_of_heap HR4.out 1
    have df1:=frozen_of_heap HR4.out 1
    have d2:=cell_of_heap HR4.out 2
    have df2:=frozen_of_heap HR4.out 2
    have d3:=cell_of_heap HR4.out 3
    have df3:=frozen_of_heap HR4.out 3
    have d4:=cell_of_heap HR4.out 4
    have df4:=frozen_of_heap HR4.out 4
    simp at d0 d1 d2 d3 d4

    have hwe:=HWE.out
    clear HWE
    cases f with
    |zero=>simp [wordEndF] at hwe
    | succ f=>
      rw [wordEndF] at hwe
      by_cases h4:k<s.size
      · have hnz:=nth_some h4
        rw [hnz] at hwe
        generalize hzk:((s[k]'h4).toNat:Int)=z at*
        have HNZ:=Lib.hid hnz
        simp only at hwe
        clear hnz
        cases hlz:letterF z
        · cases hdz:digitF z
          · rw [hlz,hdz] at hwe
            simp only [Bool.or_self,Bool.false_eq_true,if_false,Option.some.injEq] at hwe
            subst hwe
            go_wp2_with fail
            refine (letter_any z _).mono ?_
            rintro r w' ⟨rfl,hw'⟩
            rw [hw']
            clear hw'
            rw [hlz]
            go_wp2_with fail
            refine (digit_any z _).mono ?_
            rintro r w' ⟨rfl,hw'⟩
            rw [hw']
            clear hw'
            rw [hdz]
            have ht1:a≤k:=hak
            go_wp2_with fail
            have HR5:Hid (((wr.setCell ⟨R+1,1,none⟩ (.string (s.extract a k))).setCell ⟨R+1,0,none⟩ (.int .i64 5)).heap[R+1]? =some (tokC 5 (s.extract a k) 0 a k)):=Lib.hid (by have:=h_set_eq (i:=0) (u:= .int .i64 5) (h_set_eq (i:=1) (u:= .string (s.extract a k)) HR4.out);simpa using this)
            have HQ5:Hid (((wr.setCell ⟨R+1,1,none⟩ (.string (s.extract a k))).setCell ⟨R+1,0,none⟩ (.int .i64 5)).heap[R]? =some (tokC 0 ⟨#[]⟩ 0 0 0)):=Lib.hid (h_set_ne (by simp) (h_set_ne (by simp) HQ4.out))
            have HK5:Hid (Keeps [] w ((wr.setCell ⟨R+1,1,none⟩ (.string (s.extract a k))).setCell ⟨R+1,0,none⟩ (.int .i64 5))):=Lib.hid (Keeps.trans (Keeps.trans HK4.out (fp':= [R+1]) (Keeps.setCell _ _ _ _ (by simp)) (by simp [HRW.out])) (fp':= [R+1]) (Keeps.setCell _ _ _ _ (by simp)) (by simp [HRW.out]))
            generalize ((wr.setCell ⟨R+1,1,none⟩ (.string (s.extract a k))).setCell ⟨R+1,0,none⟩ (.int .i64 5))=W5 at*
            have e0:=cell_of_heap HR5.out 0
            have ef0:=frozen_of_heap HR5.out 0
            have e1:=cell_of_heap HR5.out 1
            have ef1:=frozen_of_heap HR5.out 1
            have e2:=cell_of_heap HR5.out 2
            have ef2:=frozen_of_heap HR5.out 2
            have e3:=cell_of_heap HR5.out 3
            have ef3:=frozen_of_heap HR5.out 3
            have e4:=cell_of_heap HR5.out 4
            have ef4:=frozen_of_heap HR5.out 4
            simp at e0 e1 e2 e3 e4
            refine (isWord_any _ _).mono ?_
            rintro r w' ⟨rfl,hw'⟩
            rw [hw']
            clear hw'
            cases hW:isWord (s.extract a k)
            · go_wp2_with fail
              refine (isBuilt_any _ _).mono ?_
              rintro r w' ⟨rfl,hw'⟩
              rw [hw']
              clear hw'
              cases hB:isBuilt (s.extract a k)
              · by_cases h40:z=40
                · have HKD:=Lib.hid (show kindF s (s.extract a k) k=6 by simp [kindF,hW,hB,HNZ.out,h40])
                  subst h40
                  clear hW hB
                  go_wp2_with ((with_reducible show wpList _ _ _ (Oper.mk none (.store 109 _ _) _ _ _ _::_) _ _);refine stT 109 R 0 _ (h_set_ne (by simp) HQ5.out) rfl (.agg #[.int .i64 6,.string (s.extract a k),.float .f64 0,.int .i64 a,.int .i64 k]) rfl (by kernel_rfl) (by simp [Value.cells]) (by simp [Value.cells,Value.oneCell']) ?_)
                  intro w9 hs9
                  have x0:=cell_of_heap hs9.row 0
                  have x1:=cell_of_heap hs9.row 1
                  have x2:=cell_of_heap hs9.row 2
                  have x3:=cell_of_heap hs9.row 3
                  have x4:=cell_of_heap hs9.row 4
                  simp at x0 x1 x2 x3 x4
                  have hk9:Keeps [] w w9:=Keeps.trans (Keeps.trans HK5.out (fp':= [R+1]) (Keeps.setCell _ _ _ _ (by simp)) (by simp [HRW.out])) hs9.keeps (by simp [HRW.out])
                  clear hs9
                  go_wp2_with fail
                  exact bodyPost_ret (v:= .tuple #[.agg #[.int .i64 6,.string (s.extract a k),.float .f64 0,.int .i64 a,.int .i64 k],.int .i64 0]) (by simp [results,Tryz.results77,go_sem,x0,x1,x2,x3,x4]) rfl ⟨by rw [HKD.out],hk9⟩

                · have HKD:=Lib.hid (show kindF s (s.extract a k) k=5 by simp [kindF,hW,hB,HNZ.out,h40])
                  have n40:(z==40)=false:=beq_false_of_ne h40
                  clear hW hB h40
                  go_wp2_with ((with_reducible show wpList _ _ _ (Oper.mk none (.store 109 _ _) _ _ _ _::_) _ _);refine stT 109 R 0 _ HQ5.out rfl (.agg #[.int .i64 5,.string (s.extract a k),.float .f64 0,.int .i64 a,.int .i64 k]) rfl (by kernel_rfl) (by simp [Value.cells]) (by simp [Value.cells,Value.oneCell']) ?_)
                  intro w9 hs9
                  have x0:=cell_of_heap hs9.row 0
                  have x1:=cell_of_heap hs9.row 1
                  have x2:=cell_of_heap hs9.row 2
                  have x3:=cell_of_heap hs9.row 3
                  have x4:=cell_of_heap hs9.row 4
                  simp at x0 x1 x2 x3 x4
                  have hk9:Keeps [] w w9:=Keeps.trans HK5.out hs9.keeps (by simp [HRW.out])
                  clear hs9
                  go_wp2_with fail
                  exact bodyPost_ret (v:= .tuple #[.agg #[.int .i64 5,.string (s.extract a k),.float .f64 0,.int .i64 a,.int .i64 k],.int .i64 0]) (by simp [results,Tryz.results77,go_sem,x0,x1,x2,x3,x4]) rfl ⟨by rw [HKD.out],hk9⟩

              · have HKD:=Lib.hid (show kindF s (s.extract a k) k=7 by simp [kindF,hW,hB])
                clear hW hB
                go_wp2_with ((with_reducible show wpList _ _ _ (Oper.mk none (.store 109 _ _) _ _ _ _::_) _ _);refine stT 109 R 0 _ (h_set_ne (by simp) HQ5.out) rfl (.agg #[.int .i64 7,.string (s.extract a k),.float .f64 0,.int .i64 a,.int .i64 k]) rfl (by kernel_rfl) (by simp [Value.cells]) (by simp [Value.cells,Value.oneCell']) ?_)
                intro w9 hs9
                have x0:=cell_of_heap hs9.row 0
                have x1:=cell_of_heap hs9.row 1
                have x2:=cell_of_heap hs9.row 2
                have x3:=cell_of_heap hs9.row 3
                have x4:=cell_of_heap hs9.row 4
                simp at x0 x1 x2 x3 x4
                have hk9:Keeps [] w w9:=Keeps.trans (Keeps.trans HK5.out (fp':= [R+1]) (Keeps.setCell _ _ _ _ (by simp)) (by simp [HRW.out])) hs9.keeps (by simp [HRW.out])
                clear hs9
                go_wp2_with fail
                exact bodyPost_ret (v:= .tuple #[.agg #[.int .i64 7,.string (s.extract a k),.float .f64 0,.int .i64 a,.int .i64 k],.int .i64 0]) (by simp [results,Tryz.results77,go_sem,x0,x1,x2,x3,x4]) rfl ⟨by rw [HKD.out],hk9⟩

            · have HKD:=Lib.hid (show kindF s (s.extract a k) k=8 by simp [kindF,hW])
              clear hW
              go_wp2_with ((with_reducible show wpList _ _ _ (Oper.mk none (.store 109 _ _) _ _ _ _::_) _ _);refine stT 109 R 0 _ (h_set_ne (by simp) HQ5.out) rfl (.agg #[.int .i64 8,.string (s.extract a k),.float .f64 0,.int .i64 a,.int .i64 k]) rfl (by kernel_rfl) (by simp [Value.cells]) (by simp [Value.cells,Value.oneCell']) ?_)
              intro w9 hs9
              have x0:=cell_of_heap hs9.row 0
              have x1:=cell_of_heap hs9.row 1
              have x2:=cell_of_heap hs9.row 2
              have x3:=cell_of_heap hs9.row 3
              have x4:=cell_of_heap hs9.row 4
              simp at x0 x1 x2 x3 x4
              have hk9:Keeps [] w w9:=Keeps.trans (Keeps.trans HK5.out (fp':= [R+1]) (Keeps.setCell _ _ _ _ (by simp)) (by simp [HRW.out])) hs9.keeps (by simp [HRW.out])
              clear hs9
              go_wp2_with fail
              exact bodyPost_ret (v:= .tuple #[.agg #[.int .i64 8,.string (s.extract a k),.float .f64 0,.int .i64 a,.int .i64 k],.int .i64 0]) (by simp [results,Tryz.results77,go_sem,x0,x1,x2,x3,x4]) rfl ⟨by rw [HKD.out],hk9⟩

          · rw [hlz,hdz] at hwe
            simp only [Bool.or_true,if_true] at hwe
            have HWE:=Lib.hid hwe
            clear hwe
            go_wp2_with fail
            refine (letter_any z _).mono ?_
            rintro r w' ⟨rfl,hw'⟩
            rw [hw']
            clear hw'
            rw [hlz]
            go_wp2_with fail
            refine (digit_any z _).mono ?_
            rintro r w' ⟨rfl,hw'⟩
            rw [hw']
            clear hw'
            rw [hdz]
            go_wp2_with fail
            go_roundg (s.size -(k+1))
            case measure=>omega
            case rel=>exact ⟨k+1,f,by omega,by omega,rfl,HWE,by (have:=h_set_eq (i:=4) (u:= .int .i64 ((k:Int)+1)) HR4.out;simpa using this),h_set_ne (by simp) HQ4.out,Keeps.trans HK4.out (fp':= [R+1]) (Keeps.setCell _ _ _ _ (by simp)) (by simp [HRW.out])⟩

        · rw [hlz] at hwe
          simp only [Bool.true_or,if_true] at hwe
          have HWE:=Lib.hid hwe
          clear hwe
          go_wp2_with fail
          refine (letter_any z _).mono ?_
          rintro r w' ⟨rfl,hw'⟩
          rw [hw']
          clear hw'
          rw [hlz]
          go_wp2_with fail
          go_roundg (s.size -(k+1))
          case measure=>omega
          case rel=>exact ⟨k+1,f,by omega,by omega,rfl,HWE,by (have:=h_set_eq (i:=4) (u:= .int .i64 ((k:Int)+1)) HR4.out;simpa using this),h_set_ne (by simp) HQ4.out,Keeps.trans HK4.out (fp':= [R+1]) (Keeps.setCell _ _ _ _ (by simp)) (by simp [HRW.out])⟩

      · rw [nth_none (by omega)] at hwe
        simp only [Option.some.injEq] at hwe
        subst hwe
        have ht1:a≤k:=hak
        go_wp2_with fail
        have HR5:Hid (((wr.setCell ⟨R+1,1,none⟩ (.string (s.extract a k))).setCell ⟨R+1,0,none⟩ (.int .i64 5)).heap[R+1]? =some (tokC 5 (s.extract a k) 0 a k)):=Lib.hid (by have:=h_set_eq (i:=0) (u:= .int .i64 5) (h_set_eq (i:=1) (u:= .string (s.extract a k)) HR4.out);simpa using this)
        have HQ5:Hid (((wr.setCell ⟨R+1,1,none⟩ (.string (s.extract a k))).setCell ⟨R+1,0,none⟩ (.int .i64 5)).heap[R]? =some (tokC 0 ⟨#[]⟩ 0 0 0)):=Lib.hid (h_set_ne (by simp) (h_set_ne (by simp) HQ4.out))
        have HK5:Hid (Keeps [] w ((wr.setCell ⟨R+1,1,none⟩ (.string (s.extract a k))).setCell ⟨R+1,0,none⟩ (.int .i64 5))):=Lib.hid (Keeps.trans (Keeps.trans HK4.out (fp':= [R+1]) (Keeps.setCell _ _ _ _ (by simp)) (by simp [HRW.out])) (fp':= [R+1]) (Keeps.setCell _ _ _ _ (by simp)) (by simp [HRW.out]))
        generalize ((wr.setCell ⟨R+1,1,none⟩ (.string (s.extract a k))).setCell ⟨R+1,0,none⟩ (.int .i64 5))=W5 at*
        have e0:=cell_of_heap HR5.out 0
        have ef0:=frozen_of_heap HR5.out 0
        have e1:=cell_of_heap HR5.out 1
        have ef1:=frozen_of_heap HR5.out 1
        have e2:=cell_of_heap HR5.out 2
        have ef2:=frozen_of_heap HR5.out 2
        have e3:=cell_of_heap HR5.out 3
        have ef3:=frozen_of_heap HR5.out 3
        have e4:=cell_of_heap HR5.out 4
        have ef4:=frozen_of_heap HR5.out 4
        simp at e0 e1 e2 e3 e4
        refine (isWord_any _ _).mono ?_
        rintro r w' ⟨rfl,hw'⟩
        rw [hw']
        clear hw'
        cases hW:isWord (s.extract a k)
        · go_wp2_with fail
          refine (isBuilt_any _ _).mono ?_
          rintro r w' ⟨rfl,hw'⟩
          rw [hw']
          clear hw'
          cases hB:isBuilt (s.extract a k)
          · have HKD:=Lib.hid (show kindF s (s.extract a k) k=5 by simp [kindF,hW,hB,nth_none (Nat.le_of_not_lt h4)])
            clear hW hB
            go_wp2_with ((with_reducible show wpList _ _ _ (Oper.mk none (.store 109 _ _) _ _ _ _::_) _ _);refine stT 109 R 0 _ HQ5.out rfl (.agg #[.int .i64 5,.string (s.extract a k),.float .f64 0,.int .i64 a,.int .i64 k]) rfl (by kernel_rfl) (by simp [Value.cells]) (by simp [Value.cells,Value.oneCell']) ?_)
            intro w9 hs9
            have x0:=cell_of_heap hs9.row 0
            have x1:=cell_of_heap hs9.row 1
            have x2:=cell_of_heap hs9.row 2
            have x3:=cell_of_heap hs9.row 3
            have x4:=cell_of_heap hs9.row 4
            simp at x0 x1 x2 x3 x4
            have hk9:Keeps [] w w9:=Keeps.trans HK5.out hs9.keeps (by simp [HRW.out])
            clear hs9
            go_wp2_with fail
            exact bodyPost_ret (v:= .tuple #[.agg #[.int .i64 5,.string (s.extract a k),.float .f64 0,.int .i64 a,.int .i64 k],.int .i64 0]) (by simp [results,Tryz.results77,go_sem,x0,x1,x2,x3,x4]) rfl ⟨by rw [HKD.out],hk9⟩

          · have HKD:=Lib.hid (show kindF s (s.extract a k) k=7 by simp [kindF,hW,hB])
            clear hW hB
            go_wp2_with ((with_reducible show wpList _ _ _ (Oper.mk none (.store 109 _ _) _ _ _ _::_) _ _);refine stT 109 R 0 _ (h_set_ne (by simp) HQ5.out) rfl (.agg #[.int .i64 7,.string (s.extract a k),.float .f64 0,.int .i64 a,.int .i64 k]) rfl (by kernel_rfl) (by simp [Value.cells]) (by simp [Value.cells,Value.oneCell']) ?_)
            intro w9 hs9
            have x0:=cell_of_heap hs9.row 0
            have x1:=cell_of_heap hs9.row 1
            have x2:=cell_of_heap hs9.row 2
            have x3:=cell_of_heap hs9.row 3
            have x4:=cell_of_heap hs9.row 4
            simp at x0 x1 x2 x3 x4
            have hk9:Keeps [] w w9:=Keeps.trans (Keeps.trans HK5.out (fp':= [R+1]) (Keeps.setCell _ _ _ _ (by simp)) (by simp [HRW.out])) hs9.keeps (by simp [HRW.out])
            clear hs9
            go_wp2_with fail
            exact bodyPost_ret (v:= .tuple #[.agg #[.int .i64 7,.string (s.extract a k),.float .f64 0,.int .i64 a,.int .i64 k],.int .i64 0]) (by simp [results,Tryz.results77,go_sem,x0,x1,x2,x3,x4]) rfl ⟨by rw [HKD.out],hk9⟩

        · have HKD:=Lib.hid (show kindF s (s.extract a k) k=8 by simp [kindF,hW])
          clear hW
          go_wp2_with ((with_reducible show wpList _ _ _ (Oper.mk none (.store 109 _ _) _ _ _ _::_) _ _);refine stT 109 R 0 _ (h_set_ne (by simp) HQ5.out) rfl (.agg #[.int .i64 8,.string (s.extract a k),.float .f64 0,.int .i64 a,.int .i64 k]) rfl (by kernel_rfl) (by simp [Value.cells]) (by simp [Value.cells,Value.oneCell']) ?_)
          intro w9 hs9
          have x0:=cell_of_heap hs9.row 0
          have x1:=cell_of_heap hs9.row 1
          have x2:=cell_of_heap hs9.row 2
          have x3:=cell_of_heap hs9.row 3
          have x4:=cell_of_heap hs9.row 4
          simp at x0 x1 x2 x3 x4
          have hk9:Keeps [] w w9:=Keeps.trans (Keeps.trans HK5.out (fp':= [R+1]) (Keeps.setCell _ _ _ _ (by simp)) (by simp [HRW.out])) hs9.keeps (by simp [HRW.out])
          clear hs9
          go_wp2_with fail
          exact bodyPost_ret (v:= .tuple #[.agg #[.int .i64 8,.string (s.extract a k),.float .f64 0,.int .i64 a,.int .i64 k],.int .i64 0]) (by simp [results,Tryz.results77,go_sem,x0,x1,x2,x3,x4]) rfl ⟨by rw [HKD.out],hk9⟩

set_option maxRecDepth 1000000 in
theorem next_word_p{w:World}(hG:Gl w){s:ByteArray}{i a:Nat}{op:Bool}{c:Int}{e:Nat}(hpos:0<i)(hi:i≤s.size)
    (hsa:∀W,Calls Tryz.prog 112 #[.string s,.int .i64 i] W fun e w'=>e= .returned (.int .i64 a)∧w'=W) (hs:s.size≤100000) (h3:a<s.size) (hz:((s[a]'h3).toNat:Int)=c) (h10:¬c=10) (hl:letterF c=true) (hwe:wordEndF s (s.size+1) a=some e):
    Calls Tryz.prog 77 #[.string s,.int .i64 i,.bool op] w fun r w'=>r= .returned (.tuple #[tokV ⟨kindF s (s.extract a e) e,s.extract a e,0,a,e⟩,.int .i64 0])∧Keeps [] w w':=by
  have HSA:=Lib.hid hsa;have HG:=Lib.hid hG
  clear hsa hG
  have n10:(c==10)=false:=beq_false_of_ne h10
  have hale:a≤s.size:=by omega
  have HE:=Lib.hid hwe
  clear hwe
  go_enter Tryz.func77,Tryz.ntmps77
  go_wp2_with fail
  refine (HSA.out _).mono ?_
  rintro r w1 ⟨rfl,rfl⟩
  go_wp2_with ((with_reducible show wpList _ _ _ (Oper.mk none (.store 109 _ _) _ _ _ _::_) _ _);refine stT 109 (w.heap.size+1) 0 _ (show _=some (tokC 0 ⟨#[]⟩ 0 0 0) from (by have:=h_new (w.alloc (tokC 0 ⟨#[]⟩ 0 0 0)) (tokC 0 ⟨#[]⟩ 0 0 0);simpa using this)) rfl (.agg #[.int .i64 0,.string ⟨#[]⟩,.float .f64 0,.int .i64 a,.int .i64 a]) rfl (by kernel_rfl) (by simp [Value.cells]) (by simp [Value.cells,Value.oneCell']) ?_)
  intro w2 hs2
  have hr2:=hs2.row
  have hz2:=hs2.size
  simp at hr2 hz2
  have hk2:Keeps [] w w2:=((Keeps.alloc [] w (tokC 0 ⟨#[]⟩ 0 0 0)).trans (Keeps.alloc [] _ (tokC 0 ⟨#[]⟩ 0 0 0)) (by simp)).trans hs2.keeps (by simp)
  have hq2:=hs2.at (h_alloc (o:=tokC 0 ⟨#[]⟩ 0 0 0) (h_new w (tokC 0 ⟨#[]⟩ 0 0 0))) (by omega)
  have HR2:=Lib.hid hr2;have HK2:=Lib.hid hk2;have HQ2:=Lib.hid hq2
  clear hs2 hr2 hk2 hq2
  go_wp2_with ((with_reducible show wpList _ _ _ (Oper.mk none (.store 109 _ _) _ _ _ _::_) _ _);refine stT 109 (w.heap.size+2) 0 _ (show _=some (tokC 0 ⟨#[]⟩ 0 0 0) from (by have:=h_new w2 (tokC 0 ⟨#[]⟩ 0 0 0);rw [hz2] at this;exact this)) (by first|rfl|simp [hz2]) (.agg #[.int .i64 0,.string ⟨#[]⟩,.float .f64 0,.int .i64 a,.int .i64 0]) rfl (by kernel_rfl) (by simp [Value.cells]) (by simp [Value.cells,Value.oneCell']) ?_)
  intro w3 hs3
  have hq3:=hs3.at (h_alloc (o:=tokC 0 ⟨#[]⟩ 0 0 0) HQ2.out) (by omega)
  have hr3:=hs3.at (h_alloc (o:=tokC 0 ⟨#[]⟩ 0 0 0) HR2.out) (by omega)
  have hk3:Keeps [] w w3:=(HK2.out.trans (Keeps.alloc [] w2 (tokC 0 ⟨#[]⟩ 0 0 0)) (by simp)).trans hs3.keeps (by simp)
  clear hs3 hz2 HR2 HK2 HQ2
  have HG3:=Lib.hid (HG.out.keep hk3 (by simp))
  have HQ3:=Lib.hid hq3;have HR3:=Lib.hid hr3;have HK3:=Lib.hid hk3
  clear hq3 hr3 hk3 HSA HG
  generalize hRR:w.heap.size=R at*
  have HRW:Hid (w.heap.size=R):=Lib.hid hRR
  clear hRR
  go_wp2_with fail
  refine (letter_any c _).mono ?_
  rintro r w' ⟨rfl,hw'⟩
  rw [hw']
  clear hw'
  rw [hl]
  go_wp2_with fail
  go_loopg [] (s.size -a) (fun g wr=>∃k f:Nat,a≤k∧k≤s.size∧g=s.size -k∧Hid (wordEndF s f k=some e)∧wr.heap[R+1]? =some (tokC 0 ⟨#[]⟩ 0 a k)∧wr.heap[R]? =some (tokC 0 ⟨#[]⟩ 0 0 0)∧Keeps [] w wr)
  case atStart=>exact ⟨a,s.size+1,Nat.le_refl _,hale,rfl,HE,HR3.out,HQ3.out,HK3.out⟩
  case round=>
    obtain ⟨k,f,hak,hks,rfl,HWE,hR,hQ,hK⟩:=hrel
    have HR4:=Lib.hid hR;have HQ4:=Lib.hid hQ;have HK4:=Lib.hid hK
    clear hR hQ hK
    have d0:=cell_of_heap HR4.out 0
    have df0:=frozen_of_heap HR4.out 0
    have d1:=cell_of_heap HR4.out 1
    have df1:=frozen_of_heap HR4.out 1
    have d2:=cell_of_heap HR4.out 2
    have df2:=frozen_of_heap HR4.out 2
    have d3:=cell_of_heap HR4.out 3
    have df3:=frozen_of_heap HR4.out 3
    have d4:=cell_of_heap HR4.out 4
    have df4:=frozen_of_heap HR4.out 4
    simp at d0 d1 d2 d3 d4

    have hwe:=HWE.out
    clear HWE
    cases f with
    |zero=>simp [wordEndF] at hwe
    | succ f=>
      rw [wordEndF] at hwe
      by_cases h4:k<s.size
      · have hnz:=nth_some h4
        rw [hnz] at hwe
        generalize hzk:((s[k]'h4).toNat:Int)=z at*
        have HNZ:=Lib.hid hnz
        simp only at hwe
        clear hnz
        cases hlz:letterF z
        · cases hdz:digitF z
          · rw [hlz,hdz] at hwe
            simp only [Bool.or_self,Bool.false_eq_true,if_false,Option.some.injEq] at hwe
            subst hwe
            go_wp2_with fail
            refine (letter_any z _).mono ?_
            rintro r w' ⟨rfl,hw'⟩
            rw [hw']
            clear hw'
            rw [hlz]
            go_wp2_with fail
            refine (digit_any z _).mono ?_
            rintro r w' ⟨rfl,hw'⟩
            rw [hw']
            clear hw'
            rw [hdz]
            have ht1:a≤k:=hak
            go_wp2_with fail
            have HR5:Hid (((wr.setCell ⟨R+1,1,none⟩ (.string (s.extract a k))).setCell ⟨R+1,0,none⟩ (.int .i64 5)).heap[R+1]? =some (tokC 5 (s.extract a k) 0 a k)):=Lib.hid (by have:=h_set_eq (i:=0) (u:= .int .i64 5) (h_set_eq (i:=1) (u:= .string (s.extract a k)) HR4.out);simpa using this)
            have HQ5:Hid (((wr.setCell ⟨R+1,1,none⟩ (.string (s.extract a k))).setCell ⟨R+1,0,none⟩ (.int .i64 5)).heap[R]? =some (tokC 0 ⟨#[]⟩ 0 0 0)):=Lib.hid (h_set_ne (by simp) (h_set_ne (by simp) HQ4.out))
            have HK5:Hid (Keeps [] w ((wr.setCell ⟨R+1,1,none⟩ (.string (s.extract a k))).setCell ⟨R+1,0,none⟩ (.int .i64 5))):=Lib.hid (Keeps.trans (Keeps.trans HK4.out (fp':= [R+1]) (Keeps.setCell _ _ _ _ (by simp)) (by simp [HRW.out])) (fp':= [R+1]) (Keeps.setCell _ _ _ _ (by simp)) (by simp [HRW.out]))
            generalize ((wr.setCell ⟨R+1,1,none⟩ (.string (s.extract a k))).setCell ⟨R+1,0,none⟩ (.int .i64 5))=W5 at*
            have e0:=cell_of_heap HR5.out 0
            have ef0:=frozen_of_heap HR5.out 0
            have e1:=cell_of_heap HR5.out 1
            have ef1:=frozen_of_heap HR5.out 1
            have e2:=cell_of_heap HR5.out 2
            have ef2:=frozen_of_heap HR5.out 2
            have e3:=cell_of_heap HR5.out 3
            have ef3:=frozen_of_heap HR5.out 3
            have e4:=cell_of_heap HR5.out 4
            have ef4:=frozen_of_heap HR5.out 4
            simp at e0 e1 e2 e3 e4
            refine (isWord_any _ _).mono ?_
            rintro r w' ⟨rfl,hw'⟩
            rw [hw']
            clear hw'
            cases hW:isWord (s.extract a k)
            · go_wp2_with fail
              refine (isBuilt_any _ _).mono ?_
              rintro r w' ⟨rfl,hw'⟩
              rw [hw']
              clear hw'
              cases hB:isBuilt (s.extract a k)
              · by_cases h40:z=40
                · have HKD:=Lib.hid (show kindF s (s.extract a k) k=6 by simp [kindF,hW,hB,HNZ.out,h40])
                  subst h40
                  clear hW hB
                  go_wp2_with ((with_reducible show wpList _ _ _ (Oper.mk none (.store 109 _ _) _ _ _ _::_) _ _);refine stT 109 R 0 _ (h_set_ne (by simp) HQ5.out) rfl (.agg #[.int .i64 6,.string (s.extract a k),.float .f64 0,.int .i64 a,.int .i64 k]) rfl (by kernel_rfl) (by simp [Value.cells]) (by simp [Value.cells,Value.oneCell']) ?_)
                  intro w9 hs9
                  have x0:=cell_of_heap hs9.row 0
                  have x1:=cell_of_heap hs9.row 1
                  have x2:=cell_of_heap hs9.row 2
                  have x3:=cell_of_heap hs9.row 3
                  have x4:=cell_of_heap hs9.row 4
                  simp at x0 x1 x2 x3 x4
                  have hk9:Keeps [] w w9:=Keeps.trans (Keeps.trans HK5.out (fp':= [R+1]) (Keeps.setCell _ _ _ _ (by simp)) (by simp [HRW.out])) hs9.keeps (by simp [HRW.out])
                  clear hs9
                  go_wp2_with fail
                  exact bodyPost_ret (v:= .tuple #[.agg #[.int .i64 6,.string (s.extract a k),.float .f64 0,.int .i64 a,.int .i64 k],.int .i64 0]) (by simp [results,Tryz.results77,go_sem,x0,x1,x2,x3,x4]) rfl ⟨by rw [HKD.out],hk9⟩

                · have HKD:=Lib.hid (show kindF s (s.extract a k) k=5 by simp [kindF,hW,hB,HNZ.out,h40])
                  have n40:(z==40)=false:=beq_false_of_ne h40
                  clear hW hB h40
                  go_wp2_with ((with_reducible show wpList _ _ _ (Oper.mk none (.store 109 _ _) _ _ _ _::_) _ _);refine stT 109 R 0 _ HQ5.out rfl (.agg #[.int .i64 5,.string (s.extract a k),.float .f64 0,.int .i64 a,.int .i64 k]) rfl (by kernel_rfl) (by simp [Value.cells]) (by simp [Value.cells,Value.oneCell']) ?_)
                  intro w9 hs9
                  have x0:=cell_of_heap hs9.row 0
                  have x1:=cell_of_heap hs9.row 1
                  have x2:=cell_of_heap hs9.row 2
                  have x3:=cell_of_heap hs9.row 3
                  have x4:=cell_of_heap hs9.row 4
                  simp at x0 x1 x2 x3 x4
                  have hk9:Keeps [] w w9:=Keeps.trans HK5.out hs9.keeps (by simp [HRW.out])
                  clear hs9
                  go_wp2_with fail
                  exact bodyPost_ret (v:= .tuple #[.agg #[.int .i64 5,.string (s.extract a k),.float .f64 0,.int .i64 a,.int .i64 k],.int .i64 0]) (by simp [results,Tryz.results77,go_sem,x0,x1,x2,x3,x4]) rfl ⟨by rw [HKD.out],hk9⟩

              · have HKD:=Lib.hid (show kindF s (s.extract a k) k=7 by simp [kindF,hW,hB])
                clear hW hB
                go_wp2_with ((with_reducible show wpList _ _ _ (Oper.mk none (.store 109 _ _) _ _ _ _::_) _ _);refine stT 109 R 0 _ (h_set_ne (by simp) HQ5.out) rfl (.agg #[.int .i64 7,.string (s.extract a k),.float .f64 0,.int .i64 a,.int .i64 k]) rfl (by kernel_rfl) (by simp [Value.cells]) (by simp [Value.cells,Value.oneCell']) ?_)
                intro w9 hs9
                have x0:=cell_of_heap hs9.row 0
                have x1:=cell_of_heap hs9.row 1
                have x2:=cell_of_heap hs9.row 2
                have x3:=cell_of_heap hs9.row 3
                have x4:=cell_of_heap hs9.row 4
                simp at x0 x1 x2 x3 x4
                have hk9:Keeps [] w w9:=Keeps.trans (Keeps.trans HK5.out (fp':= [R+1]) (Keeps.setCell _ _ _ _ (by simp)) (by simp [HRW.out])) hs9.keeps (by simp [HRW.out])
                clear hs9
                go_wp2_with fail
                exact bodyPost_ret (v:= .tuple #[.agg #[.int .i64 7,.string (s.extract a k),.float .f64 0,.int .i64 a,.int .i64 k],.int .i64 0]) (by simp [results,Tryz.results77,go_sem,x0,x1,x2,x3,x4]) rfl ⟨by rw [HKD.out],hk9⟩

            · have HKD:=Lib.hid (show kindF s (s.extract a k) k=8 by simp [kindF,hW])
              clear hW
              go_wp2_with ((with_reducible show wpList _ _ _ (Oper.mk none (.store 109 _ _) _ _ _ _::_) _ _);refine stT 109 R 0 _ (h_set_ne (by simp) HQ5.out) rfl (.agg #[.int .i64 8,.string (s.extract a k),.float .f64 0,.int .i64 a,.int .i64 k]) rfl (by kernel_rfl) (by simp [Value.cells]) (by simp [Value.cells,Value.oneCell']) ?_)
              intro w9 hs9
              have x0:=cell_of_heap hs9.row 0
              have x1:=cell_of_heap hs9.row 1
              have x2:=cell_of_heap hs9.row 2
              have x3:=cell_of_heap hs9.row 3
              have x4:=cell_of_heap hs9.row 4
              simp at x0 x1 x2 x3 x4
              have hk9:Keeps [] w w9:=Keeps.trans (Keeps.trans HK5.out (fp':= [R+1]) (Keeps.setCell _ _ _ _ (by simp)) (by simp [HRW.out])) hs9.keeps (by simp [HRW.out])
              clear hs9
              go_wp2_with fail
              exact bodyPost_ret (v:= .tuple #[.agg #[.int .i64 8,.string (s.extract a k),.float .f64 0,.int .i64 a,.int .i64 k],.int .i64 0]) (by simp [results,Tryz.results77,go_sem,x0,x1,x2,x3,x4]) rfl ⟨by rw [HKD.out],hk9⟩

          · rw [hlz,hdz] at hwe
            simp only [Bool.or_true,if_true] at hwe
            have HWE:=Lib.hid hwe
            clear hwe
            go_wp2_with fail
            refine (letter_any z _).mono ?_
            rintro r w' ⟨rfl,hw'⟩
            rw [hw']
            clear hw'
            rw [hlz]
            go_wp2_with fail
            refine (digit_any z _).mono ?_
            rintro r w' ⟨rfl,hw'⟩
            rw [hw']
            clear hw'
            rw [hdz]
            go_wp2_with fail
            go_roundg (s.size -(k+1))
            case measure=>omega
            case rel=>exact ⟨k+1,f,by omega,by omega,rfl,HWE,by (have:=h_set_eq (i:=4) (u:= .int .i64 ((k:Int)+1)) HR4.out;simpa using this),h_set_ne (by simp) HQ4.out,Keeps.trans HK4.out (fp':= [R+1]) (Keeps.setCell _ _ _ _ (by simp)) (by simp [HRW.out])⟩

        · rw [hlz] at hwe
          simp only [Bool.true_or,if_true] at hwe
          have HWE:=Lib.hid hwe
          clear hwe
          go_wp2_with fail
          refine (letter_any z _).mono ?_
          rintro r w' ⟨rfl,hw'⟩
          rw [hw']
          clear hw'
          rw [hlz]
          go_wp2_with fail
          go_roundg (s.size -(k+1))
          case measure=>omega
          case rel=>exact ⟨k+1,f,by omega,by omega,rfl,HWE,by (have:=h_set_eq (i:=4) (u:= .int .i64 ((k:Int)+1)) HR4.out;simpa using this),h_set_ne (by simp) HQ4.out,Keeps.trans HK4.out (fp':= [R+1]) (Keeps.setCell _ _ _ _ (by simp)) (by simp [HRW.out])⟩

      · rw [nth_none (by omega)] at hwe
        simp only [Option.some.injEq] at hwe
        subst hwe
        have ht1:a≤k:=hak
        go_wp2_with fail
        have HR5:Hid (((wr.setCell ⟨R+1,1,none⟩ (.string (s.extract a k))).setCell ⟨R+1,0,none⟩ (.int .i64 5)).heap[R+1]? =some (tokC 5 (s.extract a k) 0 a k)):=Lib.hid (by have:=h_set_eq (i:=0) (u:= .int .i64 5) (h_set_eq (i:=1) (u:= .string (s.extract a k)) HR4.out);simpa using this)
        have HQ5:Hid (((wr.setCell ⟨R+1,1,none⟩ (.string (s.extract a k))).setCell ⟨R+1,0,none⟩ (.int .i64 5)).heap[R]? =some (tokC 0 ⟨#[]⟩ 0 0 0)):=Lib.hid (h_set_ne (by simp) (h_set_ne (by simp) HQ4.out))
        have HK5:Hid (Keeps [] w ((wr.setCell ⟨R+1,1,none⟩ (.string (s.extract a k))).setCell ⟨R+1,0,none⟩ (.int .i64 5))):=Lib.hid (Keeps.trans (Keeps.trans HK4.out (fp':= [R+1]) (Keeps.setCell _ _ _ _ (by simp)) (by simp [HRW.out])) (fp':= [R+1]) (Keeps.setCell _ _ _ _ (by simp)) (by simp [HRW.out]))
        generalize ((wr.setCell ⟨R+1,1,none⟩ (.string (s.extract a k))).setCell ⟨R+1,0,none⟩ (.int .i64 5))=W5 at*
        have e0:=cell_of_heap HR5.out 0
        have ef0:=frozen_of_heap HR5.out 0
        have e1:=cell_of_heap HR5.out 1
        have ef1:=frozen_of_heap HR5.out 1
        have e2:=cell_of_heap HR5.out 2
        have ef2:=frozen_of_heap HR5.out 2
        have e3:=cell_of_heap HR5.out 3
        have ef3:=frozen_of_heap HR5.out 3
        have e4:=cell_of_heap HR5.out 4
        have ef4:=frozen_of_heap HR5.out 4
        simp at e0 e1 e2 e3 e4
        refine (isWord_any _ _).mono ?_
        rintro r w' ⟨rfl,hw'⟩
        rw [hw']
        clear hw'
        cases hW:isWord (s.extract a k)
        · go_wp2_with fail
          refine (isBuilt_any _ _).mono ?_
          rintro r w' ⟨rfl,hw'⟩
          rw [hw']
          clear hw'
          cases hB:isBuilt (s.extract a k)
          · have HKD:=Lib.hid (show kindF s (s.extract a k) k=5 by simp [kindF,hW,hB,nth_none (Nat.le_of_not_lt h4)])
            clear hW hB
            go_wp2_with ((with_reducible show wpList _ _ _ (Oper.mk none (.store 109 _ _) _ _ _ _::_) _ _);refine stT 109 R 0 _ HQ5.out rfl (.agg #[.int .i64 5,.string (s.extract a k),.float .f64 0,.int .i64 a,.int .i64 k]) rfl (by kernel_rfl) (by simp [Value.cells]) (by simp [Value.cells,Value.oneCell']) ?_)
            intro w9 hs9
            have x0:=cell_of_heap hs9.row 0
            have x1:=cell_of_heap hs9.row 1
            have x2:=cell_of_heap hs9.row 2
            have x3:=cell_of_heap hs9.row 3
            have x4:=cell_of_heap hs9.row 4
            simp at x0 x1 x2 x3 x4
            have hk9:Keeps [] w w9:=Keeps.trans HK5.out hs9.keeps (by simp [HRW.out])
            clear hs9
            go_wp2_with fail
            exact bodyPost_ret (v:= .tuple #[.agg #[.int .i64 5,.string (s.extract a k),.float .f64 0,.int .i64 a,.int .i64 k],.int .i64 0]) (by simp [results,Tryz.results77,go_sem,x0,x1,x2,x3,x4]) rfl ⟨by rw [HKD.out],hk9⟩

          · have HKD:=Lib.hid (show kindF s (s.extract a k) k=7 by simp [kindF,hW,hB])
            clear hW hB
            go_wp2_with ((with_reducible show wpList _ _ _ (Oper.mk none (.store 109 _ _) _ _ _ _::_) _ _);refine stT 109 R 0 _ (h_set_ne (by simp) HQ5.out) rfl (.agg #[.int .i64 7,.string (s.extract a k),.float .f64 0,.int .i64 a,.int .i64 k]) rfl (by kernel_rfl) (by simp [Value.cells]) (by simp [Value.cells,Value.oneCell']) ?_)
            intro w9 hs9
            have x0:=cell_of_heap hs9.row 0
            have x1:=cell_of_heap hs9.row 1
            have x2:=cell_of_heap hs9.row 2
            have x3:=cell_of_heap hs9.row 3
            have x4:=cell_of_heap hs9.row 4
            simp at x0 x1 x2 x3 x4
            have hk9:Keeps [] w w9:=Keeps.trans (Keeps.trans HK5.out (fp':= [R+1]) (Keeps.setCell _ _ _ _ (by simp)) (by simp [HRW.out])) hs9.keeps (by simp [HRW.out])
            clear hs9
            go_wp2_with fail
            exact bodyPost_ret (v:= .tuple #[.agg #[.int .i64 7,.string (s.extract a k),.float .f64 0,.int .i64 a,.int .i64 k],.int .i64 0]) (by simp [results,Tryz.results77,go_sem,x0,x1,x2,x3,x4]) rfl ⟨by rw [HKD.out],hk9⟩

        · have HKD:=Lib.hid (show kindF s (s.extract a k) k=8 by simp [kindF,hW])
          clear hW
          go_wp2_with ((with_reducible show wpList _ _ _ (Oper.mk none (.store 109 _ _) _ _ _ _::_) _ _);refine stT 109 R 0 _ (h_set_ne (by simp) HQ5.out) rfl (.agg #[.int .i64 8,.string (s.extract a k),.float .f64 0,.int .i64 a,.int .i64 k]) rfl (by kernel_rfl) (by simp [Value.cells]) (by simp [Value.cells,Value.oneCell']) ?_)
          intro w9 hs9
          have x0:=cell_of_heap hs9.row 0
          have x1:=cell_of_heap hs9.row 1
          have x2:=cell_of_heap hs9.row 2
          have x3:=cell_of_heap hs9.row 3
          have x4:=cell_of_heap hs9.row 4
          simp at x0 x1 x2 x3 x4
          have hk9:Keeps [] w w9:=Keeps.trans (Keeps.trans HK5.out (fp':= [R+1]) (Keeps.setCell _ _ _ _ (by simp)) (by simp [HRW.out])) hs9.keeps (by simp [HRW.out])
          clear hs9
          go_wp2_with fail
          exact bodyPost_ret (v:= .tuple #[.agg #[.int .i64 8,.string (s.extract a k),.float .f64 0,.int .i64 a,.int .i64 k],.int .i64 0]) (by simp [results,Tryz.results77,go_sem,x0,x1,x2,x3,x4]) rfl ⟨by rw [HKD.out],hk9⟩
end Go.Proofs.YteafcepaolofpaaGreatDoor
