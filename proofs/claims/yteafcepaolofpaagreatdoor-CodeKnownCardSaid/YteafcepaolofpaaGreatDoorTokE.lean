/- strconv.ParseFloat of one digit, walked. Made by a program. -/
import Derived.Test.YteafcepaolofpaaGreatDoorTokD
set_option maxRecDepth 100000
set_option maxHeartbeats 4000000
set_option linter.unusedSimpArgs false
set_option linter.unusedVariables false
set_option linter.unusedSectionVars false
namespace Go.Proofs.YteafcepaolofpaaGreatDoor
open Go.RowKit

/-- What is read of the tables of Go's library. -/
def Gl(w:World):Prop:=w.cell? ⟨12,0,none⟩=some (.bool true)∧w.cell? ⟨13,0,none⟩=some (.int .u64 52)∧13<w.heap.size
theorem Gl.keep{w w':World}(h:Gl w){fp:List Nat}(hk:Keeps fp w w')(hf:∀x∈fp,13<x):Gl w':=by
  obtain ⟨h1,h2,h3⟩:=h
  have n12:12∉fp:=fun hm=>by have:=hf _ hm;omega
  have n14:13∉fp:=fun hm=>by have:=hf _ hm;omega
  refine ⟨?_, ?_,Nat.lt_of_lt_of_le h3 hk.size⟩
  · rw [World.cell?_of_block (w:=w) (a:=⟨12,0,none⟩) (hk.block 12 (by omega) n12)];exact h1
  · rw [World.cell?_of_block (w:=w) (a:=⟨13,0,none⟩) (hk.block 13 h3 n14)];exact h2

theorem bool2_any(w:World):Calls Tryz.prog 217 #[.bool false] w fun r w'=>r= .returned (.int .u64 0)∧w'=w:=by
  go_enter Tryz.func217,Tryz.ntmps217
  go_wp2_with fail
  go_ret
  exact ⟨rfl,rfl⟩

theorem special49{s:ByteArray}(h1:s.size=1)(h0:0<s.size)(hz:((s[0]'h0).toNat:Int)=49)(w:World):Calls Tryz.prog 208 #[.string s] w fun r w'=>r= .returned (.tuple #[.float .f64 0,.int .i64 0,.bool false])∧w'=w:=by
  go_enter Tryz.func208,Tryz.ntmps208
  go_wp2_with fail
  exact bodyPost_ret (v:= .tuple #[.float .f64 0,.int .i64 0,.bool false]) (by simp [results,Tryz.results208,go_sem]) rfl ⟨rfl,rfl⟩
theorem readFloat49{s:ByteArray}(h1:s.size=1)(h0:0<s.size)(hz:((s[0]'h0).toNat:Int)=49)(w:World):Calls Tryz.prog 209 #[.string s] w fun r w'=>r= .returned (.tuple #[.int .u64 1,.int .i64 0,.bool false,.bool false,.bool false,.int .i64 1,.bool true])∧w'=w:=by
  go_enter Tryz.func209,Tryz.ntmps209
  go_wp2_with fail
  go_step3
  go_wp2_with fail
  go_step3
  go_wp2_with fail
  refine wp_loop_rounds 2 ?_
  rw [rounds_succ]
  go_wp2_with fail
  rw [rounds_succ]
  go_wp2_with fail
  rw [Exit.noGoto_ret]
  exact bodyPost_ret (v:= .tuple #[.int .u64 1,.int .i64 0,.bool false,.bool false,.bool false,.int .i64 1,.bool true]) (by simp [results,Tryz.results209,go_sem]) rfl ⟨rfl,rfl⟩

theorem exact49{w:World}(hG:Gl w):Calls Tryz.prog 219 #[.int .u64 1,.int .i64 0,.bool false] w fun r w'=>r= .returned (.tuple #[.float .f64 (flt 1),.bool true])∧w'=w:=by
  obtain ⟨g1,g2,g3⟩:=hG
  have g4:13<w.heap.size:=g3
  go_enter Tryz.func219,Tryz.ntmps219
  go_wp2_with fail
  go_ret2
  exact ⟨rfl,rfl⟩
theorem atof49{w:World}(hG:Gl w){s:ByteArray}(h1:s.size=1)(h0:0<s.size)(hz:((s[0]'h0).toNat:Int)=49):Calls Tryz.prog 197 #[.string s] w fun r w'=>r= .returned (.tuple #[.float .f64 (flt 1),.int .i64 1,.nilIface])∧w'=w:=by
  have HG:=Lib.hid hG
  obtain ⟨g1,g2,g3⟩:=hG
  have hsp:=special49 h1 h0 hz w
  have hrf:=readFloat49 h1 h0 hz w
  have HSP:=Lib.hid hsp;have HRF:=Lib.hid hrf
  clear hsp hrf hz
  go_enter Tryz.func197,Tryz.ntmps197
  go_wp2_with fail
  refine HSP.out.mono ?_
  rintro r w' ⟨rfl,rfl⟩
  go_wp2_with fail
  refine HRF.out.mono ?_
  rintro r w'' ⟨rfl,rfl⟩
  go_wp2_with fail
  refine (bool2_any _).mono ?_
  rintro r w'' ⟨rfl,rfl⟩
  go_wp2_with fail
  refine (exact49 HG.out).mono ?_
  rintro r w'' ⟨rfl,rfl⟩
  go_wp2_with fail
  exact bodyPost_ret (v:= .tuple #[.float .f64 (flt 1),.int .i64 1,.nilIface]) (by simp [results,Tryz.results197,go_sem]) rfl ⟨rfl,rfl⟩
theorem prefix_49{w:World}(hG:Gl w){s:ByteArray}(h1:s.size=1)(h0:0<s.size)(hz:((s[0]'h0).toNat:Int)=49):Calls Tryz.prog 173 #[.string s,.int .i64 64] w fun r w'=>r= .returned (.tuple #[.float .f64 (flt 1),.int .i64 1,.nilIface])∧w'=w:=by
  have ha:=atof49 hG h1 h0 hz
  have HA:=Lib.hid ha
  clear ha hz
  go_enter Tryz.func173,Tryz.ntmps173
  go_wp2_with fail
  refine HA.out.mono ?_
  rintro r w' ⟨rfl,rfl⟩
  go_wp2_with fail
  exact bodyPost_ret (v:= .tuple #[.float .f64 (flt 1),.int .i64 1,.nilIface]) (by simp [results,Tryz.results173,go_sem]) rfl ⟨rfl,rfl⟩
theorem iparse49{w:World}(hG:Gl w){s:ByteArray}(h1:s.size=1)(h0:0<s.size)(hz:((s[0]'h0).toNat:Int)=49):Calls Tryz.prog 150 #[.string s,.int .i64 64] w fun r w'=>r= .returned (.tuple #[.float .f64 (flt 1),.nilIface])∧w'=w:=by
  have ha:=prefix_49 hG h1 h0 hz
  have HA:=Lib.hid ha
  clear ha hz
  go_enter Tryz.func150,Tryz.ntmps150
  go_wp2_with fail
  refine HA.out.mono ?_
  rintro r w' ⟨rfl,rfl⟩
  go_wp2_with fail
  go_ret2
  exact ⟨rfl,rfl⟩
theorem parse49{w:World}(hG:Gl w){s:ByteArray}(h1:s.size=1)(h0:0<s.size)(hz:((s[0]'h0).toNat:Int)=49):Calls Tryz.prog 121 #[.string s,.int .i64 64] w fun r w'=>r= .returned (.tuple #[.float .f64 (flt 1),.nilIface])∧w'=w:=by
  have ha:=iparse49 hG h1 h0 hz
  have HA:=Lib.hid ha
  clear ha hz
  go_enter Tryz.func121,Tryz.ntmps121
  go_wp2_with fail
  refine HA.out.mono ?_
  rintro r w' ⟨rfl,rfl⟩
  go_wp2_with fail
  go_ret2
  exact ⟨rfl,rfl⟩

theorem special50{s:ByteArray}(h1:s.size=1)(h0:0<s.size)(hz:((s[0]'h0).toNat:Int)=50)(w:World):Calls Tryz.prog 208 #[.string s] w fun r w'=>r= .returned (.tuple #[.float .f64 0,.int .i64 0,.bool false])∧w'=w:=by
  go_enter Tryz.func208,Tryz.ntmps208
  go_wp2_with fail
  exact bodyPost_ret (v:= .tuple #[.float .f64 0,.int .i64 0,.bool false]) (by simp [results,Tryz.results208,go_sem]) rfl ⟨rfl,rfl⟩
theorem readFloat50{s:ByteArray}(h1:s.size=1)(h0:0<s.size)(hz:((s[0]'h0).toNat:Int)=50)(w:World):Calls Tryz.prog 209 #[.string s] w fun r w'=>r= .returned (.tuple #[.int .u64 2,.int .i64 0,.bool false,.bool false,.bool false,.int .i64 1,.bool true])∧w'=w:=by
  go_enter Tryz.func209,Tryz.ntmps209
  go_wp2_with fail
  go_step3
  go_wp2_with fail
  go_step3
  go_wp2_with fail
  refine wp_loop_rounds 2 ?_
  rw [rounds_succ]
  go_wp2_with fail
  rw [rounds_succ]
  go_wp2_with fail
  rw [Exit.noGoto_ret]
  exact bodyPost_ret (v:= .tuple #[.int .u64 2,.int .i64 0,.bool false,.bool false,.bool false,.int .i64 1,.bool true]) (by simp [results,Tryz.results209,go_sem]) rfl ⟨rfl,rfl⟩

theorem exact50{w:World}(hG:Gl w):Calls Tryz.prog 219 #[.int .u64 2,.int .i64 0,.bool false] w fun r w'=>r= .returned (.tuple #[.float .f64 (flt 2),.bool true])∧w'=w:=by
  obtain ⟨g1,g2,g3⟩:=hG
  have g4:13<w.heap.size:=g3
  go_enter Tryz.func219,Tryz.ntmps219
  go_wp2_with fail
  go_ret2
  exact ⟨rfl,rfl⟩
theorem atof50{w:World}(hG:Gl w){s:ByteArray}(h1:s.size=1)(h0:0<s.size)(hz:((s[0]'h0).toNat:Int)=50):Calls Tryz.prog 197 #[.string s] w fun r w'=>r= .returned (.tuple #[.float .f64 (flt 2),.int .i64 1,.nilIface])∧w'=w:=by
  have HG:=Lib.hid hG
  obtain ⟨g1,g2,g3⟩:=hG
  have hsp:=special50 h1 h0 hz w
  have hrf:=readFloat50 h1 h0 hz w
  have HSP:=Lib.hid hsp;have HRF:=Lib.hid hrf
  clear hsp hrf hz
  go_enter Tryz.func197,Tryz.ntmps197
  go_wp2_with fail
  refine HSP.out.mono ?_
  rintro r w' ⟨rfl,rfl⟩
  go_wp2_with fail
  refine HRF.out.mono ?_
  rintro r w'' ⟨rfl,rfl⟩
  go_wp2_with fail
  refine (bool2_any _).mono ?_
  rintro r w'' ⟨rfl,rfl⟩
  go_wp2_with fail
  refine (exact50 HG.out).mono ?_
  rintro r w'' ⟨rfl,rfl⟩
  go_wp2_with fail
  exact bodyPost_ret (v:= .tuple #[.float .f64 (flt 2),.int .i64 1,.nilIface]) (by simp [results,Tryz.results197,go_sem]) rfl ⟨rfl,rfl⟩
theorem prefix_50{w:World}(hG:Gl w){s:ByteArray}(h1:s.size=1)(h0:0<s.size)(hz:((s[0]'h0).toNat:Int)=50):Calls Tryz.prog 173 #[.string s,.int .i64 64] w fun r w'=>r= .returned (.tuple #[.float .f64 (flt 2),.int .i64 1,.nilIface])∧w'=w:=by
  have ha:=atof50 hG h1 h0 hz
  have HA:=Lib.hid ha
  clear ha hz
  go_enter Tryz.func173,Tryz.ntmps173
  go_wp2_with fail
  refine HA.out.mono ?_
  rintro r w' ⟨rfl,rfl⟩
  go_wp2_with fail
  exact bodyPost_ret (v:= .tuple #[.float .f64 (flt 2),.int .i64 1,.nilIface]) (by simp [results,Tryz.results173,go_sem]) rfl ⟨rfl,rfl⟩
theorem iparse50{w:World}(hG:Gl w){s:ByteArray}(h1:s.size=1)(h0:0<s.size)(hz:((s[0]'h0).toNat:Int)=50):Calls Tryz.prog 150 #[.string s,.int .i64 64] w fun r w'=>r= .returned (.tuple #[.float .f64 (flt 2),.nilIface])∧w'=w:=by
  have ha:=prefix_50 hG h1 h0 hz
  have HA:=Lib.hid ha
  clear ha hz
  go_enter Tryz.func150,Tryz.ntmps150
  go_wp2_with fail
  refine HA.out.mono ?_
  rintro r w' ⟨rfl,rfl⟩
  go_wp2_with fail
  go_ret2
  exact ⟨rfl,rfl⟩
theorem parse50{w:World}(hG:Gl w){s:ByteArray}(h1:s.size=1)(h0:0<s.size)(hz:((s[0]'h0).toNat:Int)=50):Calls Tryz.prog 121 #[.string s,.int .i64 64] w fun r w'=>r= .returned (.tuple #[.float .f64 (flt 2),.nilIface])∧w'=w:=by
  have ha:=iparse50 hG h1 h0 hz
  have HA:=Lib.hid ha
  clear ha hz
  go_enter Tryz.func121,Tryz.ntmps121
  go_wp2_with fail
  refine HA.out.mono ?_
  rintro r w' ⟨rfl,rfl⟩
  go_wp2_with fail
  go_ret2
  exact ⟨rfl,rfl⟩

theorem parseFloat_any{w:World}(hG:Gl w){s:ByteArray}(h1:s.size=1)(h0:0<s.size){z:Int}(hz:((s[0]'h0).toNat:Int)=z)(h:z=49∨z=50):Calls Tryz.prog 121 #[.string s,.int .i64 64] w fun r w'=>r= .returned (.tuple #[.float .f64 (flt (z -48).toNat),.nilIface])∧w'=w:=by
  rcases h with rfl|rfl
  · exact parse49 hG h1 h0 hz
  · exact parse50 hG h1 h0 hz
end Go.Proofs.YteafcepaolofpaaGreatDoor
