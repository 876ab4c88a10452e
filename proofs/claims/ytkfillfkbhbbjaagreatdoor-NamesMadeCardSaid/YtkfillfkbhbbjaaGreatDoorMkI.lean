/- MkI. -/
import Derived.Test.YtkfillfkbhbbjaaGreatDoorMkH
import Derived.Deep.RegionHeld3
set_option maxRecDepth 100000
set_option maxHeartbeats 4000000
set_option linter.unusedSimpArgs false
set_option linter.unusedVariables false
namespace Go.Proofs.YtkfillfkbhbbjaaGreatDoor
open Go.RowKit
theorem qbe{p:Prop}(h:p:=by
 replace HB:=HB.dr
 go_region_held3 (fun V=>∀j:Nat,j<6→V.cell? ⟨2,j,none⟩=some (.string (M.tb 2 j))) (exact HB.toBnR.tabK jg 2 zi)
  (first
   |(
       go_at_call 29
       refine HB.onn jh ?_;clear HB;intro _ q hi HB;have hq:q<6:=by omega)
   |(
       go_at_call 30
       refine Mp ?_;clear HB;intro _ _ _ _ _ _ _ _ _ HB)
   |(
       go_at_call 32
       refine IJ ?_;clear HB;intro _ HB;obtain ⟨l_R,x0,x1,x2,x3,x4,y0,y1,y2,y3,y4⟩:=Bv HB.res))
 all_goals
  go_wp2_with fail
  refine HB.ret jg (ja HB.res) rfl (fun U ⟨z0,z1,z2,z3,z4⟩=> ?_) jh;exact RT):p:=h
theorem jbe{p:Prop}(h:p:=by
 replace HB:=HB.dr
 go_region_held3 (fun V=>∀j:Nat,j<6→V.cell? ⟨1,j,none⟩=some (.string (M.tb 1 j))) (exact HB.toBnR.tabK jg 1 zi)
  (first
   |(
       go_at_call 29
       refine HB.onn jh ?_;clear HB;intro _ q hi HB;have hq:q<6:=by omega)
   |(
       go_at_call 30
       refine Mp ?_;clear HB;intro _ _ _ _ _ _ _ _ _ HB)
   |(
       go_at_call 32
       refine IJ ?_;clear HB;intro _ HB;obtain ⟨l_R,x0,x1,x2,x3,x4,y0,y1,y2,y3,y4⟩:=Bv HB.res))
 all_goals
  go_wp2_with fail
  refine HB.ret jg (ja HB.res) rfl (fun U ⟨z0,z1,z2,z3,z4⟩=> ?_) jh;exact RT):p:=h
def OD(l:List ByteArray)(q:Nat):ByteArray:=l.getD q ⟨#[]⟩
theorem Yo{a b:ByteArray}{q:Nat}{w:World}(hq:(q:Int)<2):(Instr.index 122 (.agg #[.string a,.string b]) (.int .i64 q)).run Tryz.prog w= .ok (.string (OD [a,b] q)) w:=by
 have hz:q=0∨q=1:=by omega
 rcases hz with rfl|rfl<;>rfl
theorem Yn{a b c:ByteArray}{q:Nat}{w:World}(hq:(q:Int)<3):(Instr.index 124 (.agg #[.string a,.string b,.string c]) (.int .i64 q)).run Tryz.prog w= .ok (.string (OD [a,b,c] q)) w:=by
 have hz:q=0∨q=1∨q=2:=by omega
 rcases hz with rfl|rfl|rfl<;>rfl
theorem Ym{a b c d e f:ByteArray}{q:Nat}{w:World}(hq:(q:Int)<6):(Instr.index 123 (.agg #[.string a,.string b,.string c,.string d,.string e,.string f]) (.int .i64 q)).run Tryz.prog w= .ok (.string (OD [a,b,c,d,e,f] q)) w:=by
 have hz:q=0∨q=1∨q=2∨q=3∨q=4∨q=5:=by omega
 rcases hz with rfl|rfl|rfl|rfl|rfl|rfl<;>rfl
attribute [local go_sem] Yo Yn Ym
set_option maxHeartbeats 8000000 in
theorem EA{M:Bs}{I:Nat}{fn:Bool}{w:World}(h:Bn M I fn w w){d:Int}(hd: -1000≤d∧d≤1000){Z K ZL KL ZB KB Z' K':Nat}(hE:Ro M fn (d -1) Z K)(hL:Zz M fn d ZL KL)(hB:GY M fn (d -1) ZB KB)(hZ:3*Z+1≤Z'∧ZL+Z+1≤Z'∧ZB≤Z'∧Z+3≤Z')(hK:3*K+KL+KB+40≤K')(hI:I+K'≤1000000000000):Calls Tryz.prog 30 #[.pointer (some ⟨M.k,0,none⟩),.int .i64 d] w fun r w'=>Gc M Z' K' I fn w r w':=by
 go_enter Tryz.func30,Tryz.ntmps30
 have H0:=zh h;clear h;obtain ⟨i,nn,l,hi,hn,hl1,hl2,hmk⟩:=H0.1.mak;obtain ⟨l_k,x0,x1,x2,x3,x4,y0,y1,y2,y3,y4⟩:=Bv hmk.row;have HMK:=zh hmk;have hnk:M.k≠w.heap.size:=Nat.ne_of_lt l_k;clear hmk;have hnw:IntKind.i64.wrap ((nn:Int)+1)=((nn+1:Nat):Int):=by rw [Ez jh jh];omega
 have hdw:IntKind.i64.wrap (d -1)=d -1:=Ez jh jh
 go_upto_region 2 with fail
 refine jxb ?_;rintro w1 ⟨hk,hr,hz⟩;have HB:ST M (I+1) fn w w1 []:=BnR.st ⟨H0.1.call ⟨i,nn+1,l,by omega,by omega,by omega,by omega,HMK.1.upd H0.1.fix hk hr⟩ hk,hz⟩;clear x0 x1 x2 x3 x4 y0 y1 y2 y3 y4 l_k hk hz HMK H0 hi hn hl1 hl2;obtain ⟨l_k,x0,x1,x2,x3,x4,y0,y1,y2,y3,y4⟩:=Bv hr;clear hr x0 x1 x3 x4 y0 y1 y2 y3 y4
 by_cases hd0:d≤0
 ·have e0:decide (d≤0)=true:=by simp [hd0]
  go_wp2_with fail
  exact YZ
 by_cases hn1:120<nn+1
 ·have hn2:(120:Int)<((nn+1:Nat):Int):=by omega
  go_wp2_with fail
  exact YZ
 have hn2:¬(120:Int)<((nn+1:Nat):Int):=by omega
 go_wp2_with fail
 refine HB.on jh ?_;clear HB;intro _ z h0 h1 HB;clear hn2 hn1 x2;have hz:z=0∨z=1∨z=2∨z=3∨z=4∨z=5∨z=6∨z=7∨z=8∨z=9∨z=10∨z=11∨z=12∨z=13∨z=14∨z=15∨z=16∨z=17∨z=18∨z=19:=by omega
 clear h0 h1
 rcases hz with rfl|rfl|rfl|rfl|rfl|rfl|rfl|rfl|rfl|rfl|rfl|rfl|rfl|rfl|rfl|rfl|rfl|rfl|rfl|rfl
 ·go_wp2_with fail
  exact YZ
 ·go_wp2_with fail
  exact YZ
 ·go_wp2_with fail
  exact YZ
 ·go_wp2_with fail
  replace HB:=HB.dr
  go_region_held3 (fun V=>∀j:Nat,j<7→V.cell? ⟨0,j,none⟩=some (.string (M.tb 0 j))) (exact HB.toBnR.tabK jg 0 zi)
   (first
    |(
        go_at_call 29
        refine HB.onn jh ?_;clear HB;intro _ q hi HB;have hq:q<7:=by omega)
    |(
        go_at_call 54
        refine HB.nod (hL _ _ HB.here jh) ?_;clear HB;intro _ _ _ _ _ _ _ _ _ HB)
    |(
        go_at_call 30
        refine Mp ?_;clear HB;intro _ _ _ _ _ _ _ _ _ HB)
    |(
        go_at_call 32
        refine IJ ?_;clear HB;intro _ HB;obtain ⟨l_R,x0,x1,x2,x3,x4,y0,y1,y2,y3,y4⟩:=Bv HB.res))
  all_goals
   go_wp2_with fail
   refine HB.ret jg (ja HB.res) rfl (fun U ⟨z0,z1,z2,z3,z4⟩=> ?_) jh;exact RT
 ·go_wp2_with fail
  refine Mp ?_;clear HB;intro _ _ _ _ _ _ _ _ _ HB
  go_wp2_with fail
  refine Mp ?_;clear HB;intro _ _ _ _ _ _ _ _ _ HB
  go_wp2_with fail
  refine Mp ?_;exact qwe
 ·go_wp2_with fail
  refine HB.on jh ?_;clear HB;intro _ y h0 h1 HB;have hy9:IntKind.i64.wrap (9+y)=9+y:=Ez jh jh
  go_wp2_with fail
  refine Mp ?_;clear HB;intro _ _ _ _ _ _ _ _ _ HB
  go_wp2_with fail
  refine Mp ?_;clear HB;intro _ _ _ _ _ _ _ _ _ HB
  go_wp2_with fail
  refine HB.sn2 jg zb jh ?_;clear HB;intro _ HB;exact DG
 ·go_wp2_with fail
  refine MU ?_;clear HB;intro _ s HB;exact qte
 ·go_wp2_with fail
  replace HB:=HB.dr
  go_region_held3 (fun _=>True) (trivial)
   (first
    |(
        go_at_call 29
        refine HB.onn jh ?_;clear HB;intro _ q hi HB)
    |(
        go_at_call 30
        refine Mp ?_;clear HB;intro _ _ _ _ _ _ _ _ _ HB)
    |(
        go_at_call 56
        refine HB.nod (Ld HB.here jh) ?_;clear HB;intro _ _ _ _ _ _ _ _ _ HB)
    |(
        go_at_call 32
        refine IJ ?_;clear HB;intro _ HB;obtain ⟨l_R,x0,x1,x2,x3,x4,y0,y1,y2,y3,y4⟩:=Bv HB.res))
  all_goals
   go_wp2_with fail
   refine HB.ret jg (ja HB.res) rfl (fun U ⟨z0,z1,z2,z3,z4⟩=> ?_) jh;exact RT
 ·go_wp2_with fail
  exact jbe
 ·go_wp2_with fail
  exact jbe
 ·go_wp2_with fail
  refine Mp ?_;clear HB;intro _ _ _ _ _ _ _ _ _ HB
  go_wp2_with fail
  refine Mp ?_;exact YH
 ·go_wp2_with fail
  refine Mp ?_;clear HB;intro _ _ _ _ _ _ _ _ _ HB
  go_wp2_with fail
  refine Mp ?_;exact YH
 ·go_wp2_with fail
  exact qbe
 ·go_wp2_with fail
  exact qbe
 ·go_wp2_with fail
  replace HB:=HB.dr
  go_region_held3 (fun _=>True) (trivial)
   (first
    |(
        go_at_call 29
        refine HB.onn jh ?_;clear HB;intro _ q hi HB)
    |(
        go_at_call 30
        refine Mp ?_;clear HB;intro _ _ _ _ _ _ _ _ _ HB)
    |(
        go_at_call 32
        refine MQ ?_;clear HB;intro _ HB;obtain ⟨l_R,x0,x1,x2,x3,x4,y0,y1,y2,y3,y4⟩:=Bv HB.res))
  all_goals
   go_wp2_with fail
   refine HB.ret jg (ja HB.res) rfl (fun U ⟨z0,z1,z2,z3,z4⟩=> ?_) jh;exact RT
 ·go_wp2_with fail
  replace HB:=HB.dr
  go_region_held3 (fun _=>True) (trivial)
   (first
    |(
        go_at_call 29
        (fail_if_success have:=hy17)
        refine HB.on jh ?_;clear HB;intro _ y h0 h1 HB;have hy17:IntKind.i64.wrap (17+y)=17+y:=Ez jh jh)
    |(
        go_at_call 29
        refine HB.onn jh ?_;clear HB;intro _ q hi HB)
    |(
        go_at_call 54
        refine HB.nod (hL _ _ HB.here jh) ?_;clear HB;intro _ _ _ _ _ _ _ _ _ HB)
    |(
        go_at_call 32
        refine HB.sn1 jg zb jh ?_;clear HB;intro _ HB;obtain ⟨l_R,x0,x1,x2,x3,x4,y0,y1,y2,y3,y4⟩:=Bv HB.res))
  all_goals
   go_wp2_with fail
   refine HB.ret jg (ja HB.res) rfl (fun U ⟨z0,z1,z2,z3,z4⟩=> ?_) jh;exact RT
 ·go_wp2_with fail
  refine HB.nod (hL _ _ HB.here jh) ?_;clear HB;intro _ _ _ _ _ _ _ _ _ HB;exact DG
 ·go_wp2_with fail
  refine HB.ont 3 jh zi ?_;clear HB;intro _ q hi ht HB
  go_wp2_with fail
  refine HB.n0 ?_;clear hi ht HB;intro _ HB;exact DG
 ·go_wp2_with fail
  refine HB.on jh ?_;clear HB;intro _ y h0 h1 HB;clear h0 h1
  by_cases hy0:y=0
  ·subst hy0
   go_wp2_with fail
   refine Mp ?_;clear HB;intro _ _ _ _ _ _ _ _ _ HB
   go_wp2_with fail
   refine MU ?_;clear HB;intro _ s HB
   go_wp2_with fail
   refine HB.n0 ?_;clear HB;intro _ HB
   go_wp2_with fail
   refine IJ ?_;clear HB;intro _ HB;exact DG
  have hy:(y==0)=false:=beq_false_of_ne hy0;exact qte
 go_wp2_with fail
 refine YE ?_;clear HB;intro _ _ _ _ _ _ _ _ _ HB;exact DG
end Go.Proofs.YtkfillfkbhbbjaaGreatDoor
