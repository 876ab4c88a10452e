/- MkJ. -/
import Derived.Test.YtkfillfkbhbbjaaGreatDoorMkI
set_option maxRecDepth 100000
set_option maxHeartbeats 4000000
set_option linter.unusedSimpArgs false
set_option linter.unusedVariables false
namespace Go.Proofs.YtkfillfkbhbbjaaGreatDoor
open Go.RowKit
attribute [local go_sem] Yo Yn Ym
set_option maxHeartbeats 8000000 in
theorem Zw{M:Bs}{I:Nat}{fn:Bool}{w:World}(h:Bn M I fn w w){d:Int}{Z K ZL KL Z' K':Nat}(hE:Ro M fn d Z K)(hL:Zz M fn d ZL KL)(hZ:2*Z+4≤Z'∧ZL+5≤Z'∧Z+5≤Z')(hK:2*K+KL+40≤K')(hI:I+K'≤1000000000000):Calls Tryz.prog 57 #[.pointer (some ⟨M.k,0,none⟩),.int .i64 d] w fun r w'=>Gc M Z' K' I fn w r w':=by
 go_enter Tryz.func57,Tryz.ntmps57
 go_wp2_with fail
 refine h.st jg zb ?_;clear h;intro _ HB
 go_wp2_with fail
 refine HB.on jh ?_;clear HB;intro _ z h0 h1 HB;have hz:z=0∨z=1∨z=2∨z=3∨z=4∨z=5∨z=6∨z=7∨z=8∨z=9∨z=10∨z=11∨z=12∨z=13:=by omega
 clear h0 h1
 rcases hz with rfl|rfl|rfl|rfl|rfl|rfl|rfl|rfl|rfl|rfl|rfl|rfl|rfl|rfl
 ·go_wp2_with fail
  refine Mp ?_;exact XH
 ·go_wp2_with fail
  refine MU ?_;clear HB;intro _ s HB
  go_wp2_with fail
  refine HB.n0 ?_;clear HB;intro _ HB
  go_wp2_with fail
  refine MQ ?_;exact LM
 ·go_wp2_with fail
  refine Mp ?_;clear HB;intro _ _ _ _ _ _ _ _ _ HB
  go_wp2_with fail
  refine PE ?_;clear HB;intro _ _ _ _ _ _ _ _ _ HB
  go_wp2_with fail
  refine PE ?_;exact qpe
 ·go_wp2_with fail
  refine Mp ?_;clear HB;intro _ _ _ _ _ _ _ _ _ HB
  go_wp2_with fail
  refine Mp ?_;exact zse
 ·go_wp2_with fail
  refine Mp ?_;clear HB;intro _ _ _ _ _ _ _ _ _ HB
  go_wp2_with fail
  refine MU ?_;clear HB;intro _ s HB
  go_wp2_with fail
  refine HB.n0 ?_;clear HB;intro _ HB
  go_wp2_with fail
  refine IJ ?_;exact LM
 ·go_wp2_with fail
  refine Mp ?_;clear HB;intro _ _ _ _ _ _ _ _ _ HB
  go_wp2_with fail
  refine MU ?_;clear HB;intro _ s HB
  go_wp2_with fail
  refine HB.n0 ?_;clear HB;intro _ HB
  go_wp2_with fail
  refine HB.nod (Ld HB.here jh) ?_;exact qpe
 ·go_wp2_with fail
  replace HB:=HB.dr
  go_region_held3 (fun _=>True) (trivial)
   (first
    |(
        go_at_call 29
        refine HB.onn jh ?_;clear HB;intro _ q hi HB)
    |(
        go_at_call 56
        refine HB.nod (Ld HB.here jh) ?_;clear HB;intro _ _ _ _ _ _ _ _ _ HB)
    |(
        go_at_call 33
        refine PE ?_;clear HB;intro _ _ _ _ _ _ _ _ _ HB)
    |(
        go_at_call 54
        refine HB.nod (hL _ _ HB.here jh) ?_;clear HB;intro _ _ _ _ _ _ _ _ _ HB)
    |(
        go_at_call 32
        refine HB.sn3 jg zb zi ?_;clear HB;intro _ HB;obtain ⟨l_R,xx⟩:=Bv HB.res))
  all_goals
   go_wp2_with fail
   refine HB.ret jg (ja HB.res) rfl (fun U ⟨z0,z1,z2,z3,z4⟩=> ?_) jh;exact RT
 ·go_wp2_with fail
  replace HB:=HB.dr
  go_region_held3 (fun _=>True) (trivial)
   (first
    |(
        go_at_call 29
        refine HB.onn jh ?_;clear HB;intro _ q hi HB)
    |(
        go_at_call 56
        refine HB.nod (Ld HB.here jh) ?_;clear HB;intro _ _ _ _ _ _ _ _ _ HB)
    |(
        go_at_call 32
        (fail_if_success have:=hz0)
        refine HB.n0 ?_;clear HB;intro _ HB;have hz0:=True.intro)
    |(
        go_at_call 32
        refine IJ ?_;clear HB;intro _ HB;obtain ⟨l_R,xx⟩:=Bv HB.res))
  all_goals
   go_wp2_with fail
   refine HB.ret jg (ja HB.res) rfl (fun U ⟨z0,z1,z2,z3,z4⟩=> ?_) jh;exact RT
 ·go_wp2_with fail
  refine Mp ?_;clear HB;intro _ _ _ _ _ _ _ _ _ HB
  go_wp2_with fail
  refine HB.nod (Ld HB.here jh) ?_;exact zse
 ·go_wp2_with fail
  refine HB.n0 ?_;clear HB;intro _ HB
  go_wp2_with fail
  refine Mp ?_;clear HB;intro _ _ _ _ _ _ _ _ _ HB
  go_wp2_with fail
  refine Mp ?_;clear HB;intro _ _ _ _ _ _ _ _ _ HB
  go_wp2_with fail
  refine PE ?_;clear HB;intro _ _ _ _ _ _ _ _ _ HB
  go_wp2_with fail
  refine HB.sn4 jg zb zi ?_;exact LM
 ·go_wp2_with fail
  replace HB:=HB.dr
  go_region_held3 (fun _=>True) (trivial)
   (first
    |(
        go_at_call 29
        refine HB.onn jh ?_;clear HB;intro _ q hi HB)
    |(
        go_at_call 30
        refine Mp ?_;clear HB;intro _ _ _ _ _ _ _ _ _ HB)
    |(
        go_at_call 32
        refine MQ ?_;clear HB;intro _ HB;obtain ⟨l_R,xx⟩:=Bv HB.res))
  all_goals
   go_wp2_with fail
   refine HB.ret jg (ja HB.res) rfl (fun U ⟨z0,z1,z2,z3,z4⟩=> ?_) jh;exact RT
 ·go_wp2_with fail
  refine HB.on jh ?_;clear HB;intro _ y h0 h1 HB;clear h0 h1
  by_cases hy0:y=0
  ·subst hy0
   go_wp2_with fail
   refine PE ?_;exact XH
  have hy:(y==0)=false:=beq_false_of_ne hy0
  go_wp2_with fail
  refine HB.n0 ?_;exact LM
 ·go_wp2_with fail
  refine MU ?_;clear HB;intro _ s HB
  go_wp2_with fail
  refine HB.n0 ?_;clear HB;intro _ HB
  go_wp2_with fail
  refine PE ?_;exact zse
 go_wp2_with fail
 refine HB.n0 ?_;exact LM
end Go.Proofs.YtkfillfkbhbbjaaGreatDoor
