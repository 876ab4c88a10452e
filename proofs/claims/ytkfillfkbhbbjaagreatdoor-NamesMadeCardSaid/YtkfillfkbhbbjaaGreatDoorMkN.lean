/- MkN. -/
import Derived.Test.YtkfillfkbhbbjaaGreatDoorMkM
set_option maxRecDepth 100000
set_option maxHeartbeats 4000000
set_option linter.unusedSimpArgs false
set_option linter.unusedVariables false
namespace Go.Proofs.YtkfillfkbhbbjaaGreatDoor
open Go.RowKit
set_option maxHeartbeats 8000000 in
theorem Vd{M:Bs}{I:Nat}{fn:Bool}{w:World}(h:Bn M I fn w w){d:Int}(hd: -1000≤d∧d≤1000){Z1 K1 Z2 K2 ZE KE ZB KB KL Z' K':Nat}(hE:Ro M fn 2 ZE KE)(h1:Eu 89 M fn 1 Z1 K1)(h2:Eu 89 M fn 2 Z2 K2)(hB:Eu 31 M fn (d -1) ZB KB)(hLO:Eu 90 M fn (d -1) ZB KL)(hZ:Z1≤Z'∧Z2≤Z'∧ZE+2*ZB+1≤Z'∧ZB+12≤Z')(hK:K1+K2+KE+2*KB+KL+60≤K')(hI:I+K'≤1000000000000):Calls Tryz.prog 58 #[.pointer (some ⟨M.k,0,none⟩),.int .i64 d] w fun r w'=>Gc M Z' K' I fn w r w':=by
 go_enter Tryz.func58,Tryz.ntmps58
 have hdw:IntKind.i64.wrap (d -1)=d -1:=Ez jh jh
 go_upto_region 1 with fail
 refine zzb ?_;rintro w1 ⟨hk,hr⟩;have HB:=(BnR.start h hk hr).st;clear hk hr h;obtain ⟨i,nn,l,hi,hn,hl1,hl2,hmk⟩:=HB.mak;obtain ⟨l_k,x0,x1,x2,x3,x4,y0,y1,y2,y3,y4⟩:=Bv hmk.row;clear hmk x0 x1 x3 x4 y0 y1 y2 y3 y4 hi hn hl1 hl2
 by_cases hd0:d≤0
 ·have e0:decide (d≤0)=true:=by simp [hd0]
  exact zme
 by_cases hn1:120<nn
 ·have hn2:(120:Int)<(nn:Int):=by omega
  exact zme
 have hn2:¬(120:Int)<(nn:Int):=by omega
 go_wp2_with fail
 refine HB.on jh ?_;clear HB;intro _ z h0 h1 HB;clear hn2 hn1 x2 l_k;have hz:z=0∨z=1∨z=2∨z=3∨z=4∨z=5∨z=6∨z=7∨z=8∨z=9∨z=10∨z=11∨z=12∨z=13∨z=14∨z=15∨z=16∨z=17:=by omega
 clear h0 h1
 rcases hz with rfl|rfl|rfl|rfl|rfl|rfl|rfl|rfl|rfl|rfl|rfl|rfl|rfl|rfl|rfl|rfl|rfl|rfl
 ·go_wp2_with fail
  refine Mp ?_;clear HB;intro _ _ _ _ _ _ _ _ _ HB
  go_wp2_with fail
  refine YE ?_;exact YH
 ·go_wp2_with fail
  refine Mp ?_;clear HB;intro _ _ _ _ _ _ _ _ _ HB
  go_wp2_with fail
  refine YE ?_;exact YH
 ·go_wp2_with fail
  refine Mp ?_;clear HB;intro _ _ _ _ _ _ _ _ _ HB
  go_wp2_with fail
  refine YE ?_;clear HB;intro _ _ _ _ _ _ _ _ _ HB
  go_wp2_with fail
  refine YE ?_;exact qwe
 ·go_wp2_with fail
  refine HB.onn jh ?_;clear HB;intro _ q hi HB;have ht:=Lq.tab HB.fix HB.mak (g:=6) (j:=q) jh (show q<4 by omega);have hi4:(q:Int)<4:=by omega
  go_wp2_with fail
  refine HB.n0 ?_;clear ht hi4 HB;intro _ HB
  go_wp2_with fail
  refine HB.num ?_;clear HB;intro _ _ HB
  go_wp2_with fail
  refine IJ ?_;clear HB;intro _ HB
  go_wp2_with fail
  refine MQ ?_;clear HB;intro _ HB
  go_wp2_with fail
  refine HB.n0 ?_;clear HB;intro _ HB
  go_wp2_with fail
  refine HB.onn jh ?_;clear HB;intro _ _ _ HB
  go_wp2_with fail
  refine HB.num ?_;clear HB;intro _ _ HB
  go_wp2_with fail
  refine IJ ?_;clear HB;intro _ HB
  go_wp2_with fail
  refine HB.n0 ?_;clear HB;intro _ HB
  go_wp2_with fail
  refine MQ ?_;clear HB;intro _ HB
  go_wp2_with fail
  refine MQ ?_;clear HB;intro _ HB
  go_wp2_with fail
  refine HB.nod (hLO _ _ HB.here jh) ?_;clear HB;intro _ _ _ _ _ _ _ _ _ HB
  go_wp2_with fail
  refine HB.sn4 jg zb zi ?_;clear HB;intro _ HB;exact DG
 ·go_wp2_with fail
  refine MU ?_;clear HB;intro _ s HB
  go_wp2_with fail
  refine zwb ?_;clear HB;intro _ s HB
  go_wp2_with fail
  refine HB.n0 ?_;clear HB;intro _ HB
  go_wp2_with fail
  refine HB.nod (hLO _ _ HB.here jh) ?_;exact YH
 ·go_wp2_with fail
  refine HB.n0 ?_;clear HB;intro _ HB
  go_wp2_with fail
  refine MQ ?_;clear HB;intro _ HB
  go_wp2_with fail
  refine HB.onn jh ?_;clear HB;intro _ _ _ HB
  go_wp2_with fail
  refine HB.num ?_;clear HB;intro _ _ HB
  go_wp2_with fail
  refine IJ ?_;clear HB;intro _ HB
  go_wp2_with fail
  refine HB.nod (hLO _ _ HB.here jh) ?_;exact YH
 ·go_wp2_with fail
  refine HB.nod (hLO _ _ HB.here jh) ?_;clear HB;intro _ _ _ _ _ _ _ _ _ HB
  go_wp2_with fail
  refine HB.n0 ?_;clear HB;intro _ HB
  go_wp2_with fail
  refine MQ ?_;clear HB;intro _ HB
  go_wp2_with fail
  refine HB.num ?_;clear HB;intro _ _ HB
  go_wp2_with fail
  refine IJ ?_;clear HB;intro _ HB
  go_wp2_with fail
  refine IJ ?_;clear HB;intro _ HB;exact DG
 ·obtain ⟨i9,n9,l9,hi9,hn9,hl91,hl92,hm9⟩:=HB.mak;obtain ⟨l_k,x0,x1,x2,x3,x4,y0,y1,y2,y3,y4⟩:=Bv hm9.row;clear hm9 hi9 hn9 hl91 hl92
  by_cases hl9:0<l9
  ·go_wp2_with fail
   refine HB.on jh ?_;clear HB;intro _ y h0 h1 HB;clear l_k x0 x1 x2 x3 x4 y0 y1 y2 y3 y4;have hy36:IntKind.i64.wrap (36+y)=36+y:=Ez jh jh;replace HB:=HB.leaf (kd:=36+y) (nm:=⟨#[]⟩);exact DG
  go_wp2_with fail
  refine YE ?_;clear HB;intro _ _ _ _ _ _ _ _ _ HB;clear l_k x0 x1 x2 x3 x4 y0 y1 y2 y3 y4;exact DG
 ·have hfn:=Lq.fnc HB.mak;have l_k:=Nat.lt_trans HB.lt HB.b
  cases fn with
  |true=>
   go_wp2_with fail
   refine Mp ?_;clear HB;intro _ _ _ _ _ _ _ _ _ HB;clear hfn l_k
   go_wp2_with fail
   refine MQ ?_;clear HB;intro _ HB;exact DG
  |false=>
   go_wp2_with fail
   refine HB.on jh ?_;clear HB;intro _ y h0 h1 HB;clear hfn l_k;clear h0 h1
   by_cases hy0:y=0
   ·subst hy0;replace HB:=HB.leaf (kd:=39) (nm:=⟨#[]⟩);exact DG
   have hy:(y==0)=false:=beq_false_of_ne hy0
   go_wp2_with fail
   exact RS
 ·go_wp2_with fail
  exact RS
 ·go_wp2_with fail
  exact RS
 ·go_wp2_with fail
  exact RS
 ·go_wp2_with fail
  exact RS
 ·go_wp2_with fail
  exact RS
 ·go_wp2_with fail
  exact RS
 ·go_wp2_with fail
  exact RS
 ·go_wp2_with fail
  exact RS
 go_wp2_with fail
 exact RS
end Go.Proofs.YtkfillfkbhbbjaaGreatDoor
