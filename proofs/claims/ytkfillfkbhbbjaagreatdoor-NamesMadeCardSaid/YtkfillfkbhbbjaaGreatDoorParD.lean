/- TokB, TokC, TokD, TokE, TokF, TokG, TokH, ParA, ParB, ParC, ParD. -/
import Derived.Test.YtkfillfkbhbbjaaGreatDoorTokA
import Derived.Laws.BytesArg
set_option maxRecDepth 100000
set_option maxHeartbeats 4000000
set_option linter.unusedSimpArgs false
set_option linter.unusedVariables false
namespace Go.Proofs.YtkfillfkbhbbjaaGreatDoor
open Go.RowKit
set_option maxHeartbeats 1000000 in
theorem NL{s:ByteArray}{i r:Nat}{f:Nat}(h:Mw s f i=some r)(hi:i≤s.size)(hs:s.size≤1000000)(w:World):Calls Tryz.prog 91 #[.string s,.int .i64 i] w fun e w'=>e= .returned (.int .i64 r)∧w'=w:=by
 have H:=zh h;clear h
 go_enter Tryz.func91,Tryz.ntmps91
 go_wp2_with fail
 go_loop [1] (fun iv=>∃k g:Nat,k≤s.size∧iv= .int .i64 k∧Hd (Mw s g k=some r)) (fun iv=>s.size -(intOf iv).toNat)
 case atStart=>exact ⟨i,f,hi,rfl,zh H.1⟩
 obtain ⟨k,g,hk,rfl,HA⟩:=hrel;have ha:=HA.1;clear HA
 cases g with
 |zero=>simp [Mw] at ha
 | succ g=>
  rw [Mw] at ha
  by_cases h3:k<s.size
  ·rw [Ec h3] at ha;generalize hz:((s[k]'h3).toNat:Int)=z at*
   simp only at ha
   by_cases hb:z=32∨z=9∨z=13
   ·rw [if_pos hb] at ha;have HA:=zh ha;clear ha
    rcases hb with rfl|rfl|rfl
    all_goals
     go_wp2_with fail
     exact ⟨⟨k+1,g,by omega,by go_num,HA⟩,by simp [intOf];omega⟩
   rw [if_neg hb] at ha
   by_cases hc:z=92∨z=35
   ·rw [if_pos hc] at ha;cases ha
   rw [if_neg hc] at ha;obtain rfl:=Option.some.inj ha;clear ha;have n1:(z==32)=false:=beq_false_of_ne fun h=>hb (.inl h)
   have n2:(z==9)=false:=beq_false_of_ne fun h=>hb (.inr (.inl h))
   have n3:(z==13)=false:=beq_false_of_ne fun h=>hb (.inr (.inr h))
   have n4:(z==92)=false:=beq_false_of_ne fun h=>hc (.inl h)
   have n5:(z==35)=false:=beq_false_of_ne fun h=>hc (.inr h)
   clear hb hc
   go_wp2_with fail
   go_ret
   exact Qd
  rw [Em jh] at ha;obtain rfl:=Option.some.inj ha;clear ha
  go_wp2_with fail
  go_ret
  exact Qd
set_option maxRecDepth 1000000 in
theorem Wm(t:ByteArray)(w:World):Calls Tryz.prog 94 #[.string t] w fun e w'=>e= .returned (.bool (AV t))∧w'=w:=by
 go_enter Tryz.func94,Tryz.ntmps94
 go_wp2_with fail
 refine (Fl VV t zi w).mono ?_;rintro e w' ⟨rfl,rfl⟩
 go_wp2_with fail
 go_ret
 exact Qd
set_option maxRecDepth 1000000 in
theorem Ts(t:ByteArray)(w:World):Calls Tryz.prog 95 #[.string t] w fun e w'=>e= .returned (.bool (Ut t))∧w'=w:=by
 go_enter Tryz.func95,Tryz.ntmps95
 go_wp2_with fail
 refine (Fl QS t zi w).mono ?_;rintro e w' ⟨rfl,rfl⟩
 go_wp2_with fail
 go_ret
 exact Qd
set_option maxHeartbeats 1000000 in
theorem BF(s:ByteArray)(i:Nat)(hs:s.size≤1000000)(w:World):Calls Tryz.prog 123 #[.string s,.int .i64 i] w fun e w'=>e= .returned (.bool (Rc s i))∧w'=w:=by
 by_cases h3:i<s.size
 ·have hd:Rc s i=Fp ((s[i]'h3).toNat:Int):=by simp [Rc,Ec h3]
  rw [hd];clear hd;generalize hz:((s[i]'h3).toNat:Int)=z at*
  by_cases h1:48≤z
  ·have hd:Fp z=decide (z≤57):=by simp [Fp,h1]
   exact jpe
  have hd:Fp z=false:=by simp [Fp,h1]
  exact jpe
 have hd:Rc s i=false:=by simp [Rc,Em (Nat.le_of_not_lt h3)]
 exact jpe
set_option maxRecDepth 1000000 in
set_option maxHeartbeats 4000000 in
theorem NM{s:ByteArray}{i:Nat}(h3:i<s.size)(hs:s.size≤1000000)(w:World):Calls Tryz.prog 101 #[.string s,.int .i64 i] w fun e w'=>e= .returned (.string ((Fx s i ((s[i]'h3).toNat:Int)).getD (bs [])))∧w'=w:=by
 have hw1:IntKind.i64.wrap ((i:Int)+1)=(i:Int)+1:=IntWalk.i64_in _ jh;have hw2:IntKind.i64.wrap ((i:Int)+2)=(i:Int)+2:=IntWalk.i64_in _ jh;generalize hz:((s[i]'h3).toNat:Int)=z at*
 by_cases h1:i+1<s.size
 ·cases hA:Gj AK (s.extract i (i+2))
  ·by_cases h32:z=32
   ·subst h32;rw [show (Fx s i 32).getD (bs [])=bs [] from by simp [Fx, *]];exact zqe
   have n1:(z==32)=false:=beq_false_of_ne h32
   cases hB:Gj Vj (s.extract i (i+1))
   ·rw [show (Fx s i z).getD (bs [])=bs [] from by simp [Fx, *]];exact zke
   rw [show (Fx s i z).getD (bs [])=s.extract i (i+1) from by simp [Fx, *]];exact zke
  rw [show (Fx s i z).getD (bs [])=s.extract i (i+2) from by simp [Fx, *]];exact zqe
 by_cases h32:z=32
 ·subst h32;rw [show (Fx s i 32).getD (bs [])=bs [] from by simp [Fx, *]]
  go_enter Tryz.func101,Tryz.ntmps101
  go_wp2_with fail
  go_ret
  exact Qd
 have n1:(z==32)=false:=beq_false_of_ne h32
 cases hB:Gj Vj (s.extract i (i+1))
 ·rw [show (Fx s i z).getD (bs [])=bs [] from by simp [Fx, *]];exact jqe
 rw [show (Fx s i z).getD (bs [])=s.extract i (i+1) from by simp [Fx, *]];exact jqe
theorem PZ(s:ByteArray)(i:Nat)(hs:s.size≤1000000)(w:World):Calls Tryz.prog 123 #[.string s,.int .i64 ((i:Int)+1)] w fun e w'=>e= .returned (.bool (Rc s (i+1)))∧w'=w:=BF s (i+1) hs w
set_option maxRecDepth 1000000 in
set_option maxHeartbeats 4000000 in
theorem Tm{s:ByteArray}{i e:Nat}(h:Fz s i=some e)(hi:i≤s.size)(hs:s.size≤1000000)(w:World):Calls Tryz.prog 99 #[.string s,.int .i64 i] w fun r w'=>r= .returned (.int .i64 e)∧w'=w:=by
 have hw1:IntKind.i64.wrap ((i:Int)+1)=(i:Int)+1:=IntWalk.i64_in _ jh
 by_cases h3:i<s.size
 ·have hd:Rc s i=Fp ((s[i]'h3).toNat:Int):=by simp [Rc,Ec h3]
  rw [Fz,Ec h3] at h;generalize hz:((s[i]'h3).toNat:Int)=z at*
  simp only at h
  cases hdz:Fp z
  ·rw [hdz] at h hd;simp only [Bool.false_eq_true,if_false] at h
   by_cases h46:z=46
   ·rw [if_pos h46] at h;cases h
   rw [if_neg h46] at h;obtain rfl:=Option.some.inj h;have n46:(z==46)=false:=beq_false_of_ne h46;clear h h46 hdz;exact qke
  rw [hdz] at h hd;simp only [if_true] at h
  by_cases h4:i+1<s.size
  ·have hd1:Rc s (i+1)=Fp ((s[i+1]'h4).toNat:Int):=by simp [Rc,Ec h4]
   rw [Ec h4] at h;generalize hy:((s[i+1]'h4).toNat:Int)=y at*
   simp only at h
   split at h
   ·cases h
   rename_i hn;obtain rfl:=Option.some.inj h;simp only [Bool.or_eq_true,not_or,Bool.not_eq_true] at hn;obtain ⟨⟨⟨n1,n2⟩,n3⟩,n4⟩:=hn;rw [n1] at hd1;clear h hdz n1;exact qge
  rw [Em jh] at h;obtain rfl:=Option.some.inj h;have hd1:Rc s (i+1)=false:=by simp [Rc,Em (Nat.le_of_not_lt h4)]
  clear h hdz;exact qge
 rw [Fz,Em jh] at h;obtain rfl:=Option.some.inj h;have hd:Rc s i=false:=by simp [Rc,Em (Nat.le_of_not_lt h3)]
 clear h;exact qke
theorem LB{s:ByteArray}{i k l c:Nat}(hk:k<i)(h:Nc s k=some 10):Ix s (i -k) k l c=Ix s (i -(k+1)) (k+1) (l+1) 1:=by
 have e:i -k=(i -(k+1))+1:=by omega
 rw [e,Ix,if_pos h]
theorem LA{s:ByteArray}{i k l c:Nat}(hk:k<i)(h:Nc s k≠some 10):Ix s (i -k) k l c=Ix s (i -(k+1)) (k+1) l (c+1):=by
 have e:i -k=(i -(k+1))+1:=by omega
 rw [e,Ix,if_neg h]
set_option maxHeartbeats 2000000 in
theorem KZ{s:ByteArray}{i:Nat}(hi:i≤s.size)(hs:s.size≤1000000)(w:World):Calls Tryz.prog 102 #[.string s,.int .i64 i] w fun r w'=>r= .returned (.complex .f64 (Ag s i).1 (Ag s i).2)∧w'=w:=by
 rcases Nat.eq_zero_or_pos i with rfl|hpos
 ·have hP0:Ending.returned (.complex .f64 (floatOfInt .f64 1) (floatOfInt .f64 1))=Ending.returned (.complex .f64 (Ag s 0).1 (Ag s 0).2):=by
   have e:Ag s 0=(flt 1,flt 1):=rfl;rw [e]
   rfl
  go_enter Tryz.func102,Tryz.ntmps102
  go_wp2_with fail
  refine wp_loop_rounds 1 ?_;rw [rounds_succ]
  go_wp2_with fail
  go_ret
  exact ⟨hP0,rfl⟩
 obtain ⟨R,hR⟩:∃R,Ix s i 0 1 1=R:=⟨_,rfl⟩;have hP:Ag s i=(flt R.1,flt R.2):=by unfold Ag;rw [hR]
 rw [hP];clear hP;have HR:=zh hR;clear hR
 go_enter Tryz.func102,Tryz.ntmps102
 go_wp2_with fail
 go_loop [5,6,7] (fun lv cv iv=>∃k l c:Nat,k≤i∧l≤k+1∧c≤k+1∧iv= .int .i64 k∧lv= .int .i64 l∧cv= .int .i64 c∧Hd (Ix s (i -k) k l c=R)) (fun _ _ iv=>i -(intOf iv).toNat)
 case atStart=>exact ⟨0,1,1,by omega,by omega,by omega,rfl,rfl,rfl,zh (by simpa using HR.1)⟩
 obtain ⟨k,l,c,hk,hl,hc,rfl,rfl,rfl,HA⟩:=hrel
 by_cases h1:k<i
 ·have h4:k<s.size:=by omega
  have hnz:=Ec h4;have ha:=HA.1;clear HA;generalize hz:((s[k]'h4).toNat:Int)=z at*
  by_cases h10:z=10
  ·subst h10;rw [LB h1 hnz] at ha;have HA:=zh ha;clear ha hnz
   go_wp2_with fail
   exact ⟨⟨k+1,l+1,1,by omega,by omega,by omega,by go_num,by go_num,rfl,HA⟩,by simp [intOf];omega⟩
  rw [LA h1 (by rw [hnz];simpa using h10)] at ha;have HA:=zh ha;have n10:(z==10)=false:=beq_false_of_ne h10;clear ha hnz h10
  go_wp2_with fail
  exact ⟨⟨k+1,l,c+1,by omega,by omega,by omega,by go_num,rfl,by go_num,HA⟩,by simp [intOf];omega⟩
 have e:i -k=0:=by omega
 have ha:=HA.1;rw [e,Ix] at ha;have HA':=zh ha;clear ha HA e
 go_wp2_with fail
 go_ret
 exact zfb
def Aaf(b:UInt8):Value:= .int .u8 b.toNat
def Abg(bs:List UInt8):List Value:=bs.map Aaf
def Bys(w:World)(base:Nat)(v:Value)(bs:List UInt8):Prop:=w.ownsRow base 5 1 v bs.length (Abg bs)
theorem Bys.keep{w w':World}{base:Nat}{v:Value}{bs:List UInt8}(h:Bys w base v bs)(hk:Ac [] w w'):Bys w' base v bs:=KV h hk
def Gl(w:World):Prop:=w.cell? ⟨12,0,none⟩=some (.bool true)∧w.cell? ⟨14,0,none⟩=some (.int .u64 52)∧14<w.heap.size
theorem Gl.keep{w w':World}(h:Gl w){fp:List Nat}(hk:Ac fp w w')(hf:∀x∈fp,14<x):Gl w':=by
 obtain ⟨h1,h2,h3⟩:=h;have n12:12∉fp:=fun hm=>by have:=hf _ hm;omega
 have n14:14∉fp:=fun hm=>by have:=hf _ hm;omega
 refine ⟨?_, ?_,Nat.lt_of_lt_of_le h3 hk.size⟩
 ·rw [World.cell?_of_block (w:=w) (a:=⟨12,0,none⟩) (hk.block 12 jh n12)];exact h1
 rw [World.cell?_of_block (w:=w) (a:=⟨14,0,none⟩) (hk.block 14 h3 n14)];exact h2
theorem MG(w:World):Calls Tryz.prog 220 #[.bool false] w fun r w'=>r= .returned (.int .u64 0)∧w'=w:=by
 go_enter Tryz.func220,Tryz.ntmps220
 go_wp2_with fail
 go_ret
 exact Qd
theorem KP{s:ByteArray}(h1:s.size=1)(h0:0<s.size)(hz:((s[0]'h0).toNat:Int)=49)(w:World):Calls Tryz.prog 211 #[.string s] w fun r w'=>r= .returned (.tuple #[.float .f64 0,.int .i64 0,.bool false])∧w'=w:=by
 go_enter Tryz.func211,Tryz.ntmps211
 go_wp2_with fail
 exact bodyPost_ret (v:= .tuple #[.float .f64 0,.int .i64 0,.bool false]) jq rfl ⟨rfl,rfl⟩
theorem CL{s:ByteArray}(h1:s.size=1)(h0:0<s.size)(hz:((s[0]'h0).toNat:Int)=49)(w:World):Calls Tryz.prog 212 #[.string s] w fun r w'=>r= .returned (.tuple #[.int .u64 1,.int .i64 0,.bool false,.bool false,.bool false,.int .i64 1,.bool true])∧w'=w:=by
 go_enter Tryz.func212,Tryz.ntmps212
 go_wp2_with fail
 go_step3
 go_wp2_with fail
 go_step3
 go_wp2_with fail
 refine wp_loop_rounds 2 ?_;rw [rounds_succ]
 go_wp2_with fail
 rw [rounds_succ]
 go_wp2_with fail
 rw [Exit.noGoto_ret];exact bodyPost_ret (v:= .tuple #[.int .u64 1,.int .i64 0,.bool false,.bool false,.bool false,.int .i64 1,.bool true]) jq rfl ⟨rfl,rfl⟩
theorem VD{w:World}(hG:Gl w):Calls Tryz.prog 222 #[.int .u64 1,.int .i64 0,.bool false] w fun r w'=>r= .returned (.tuple #[.float .f64 (flt 1),.bool true])∧w'=w:=by
 obtain ⟨g1,g2,g3⟩:=hG;have g4:14<w.heap.size:=g3
 go_enter Tryz.func222,Tryz.ntmps222
 go_wp2_with fail
 go_ret2
 exact Qd
theorem XY{w:World}(hG:Gl w){s:ByteArray}(h1:s.size=1)(h0:0<s.size)(hz:((s[0]'h0).toNat:Int)=49):Calls Tryz.prog 185 #[.string s] w fun r w'=>r= .returned (.tuple #[.float .f64 (flt 1),.int .i64 1,.nilIface])∧w'=w:=by
 have HG:=zh hG;obtain ⟨g1,g2,g3⟩:=hG;have hsp:=KP h1 h0 hz w;have hrf:=CL h1 h0 hz w;have HSP:=zh hsp;have HRF:=zh hrf;clear hsp hrf hz
 go_enter Tryz.func185,Tryz.ntmps185
 go_wp2_with fail
 refine HSP.1.mono ?_;rintro r w' ⟨rfl,rfl⟩
 go_wp2_with fail
 refine HRF.1.mono ?_;rintro r w'' ⟨rfl,rfl⟩
 go_wp2_with fail
 refine (MG _).mono ?_;rintro r w'' ⟨rfl,rfl⟩
 go_wp2_with fail
 refine (VD HG.1).mono ?_;rintro r w'' ⟨rfl,rfl⟩
 go_wp2_with fail
 exact jfb
theorem KX{w:World}(hG:Gl w){s:ByteArray}(h1:s.size=1)(h0:0<s.size)(hz:((s[0]'h0).toNat:Int)=49):Calls Tryz.prog 155 #[.string s,.int .i64 64] w fun r w'=>r= .returned (.tuple #[.float .f64 (flt 1),.int .i64 1,.nilIface])∧w'=w:=by
 have ha:=XY hG h1 h0 hz;have HA:=zh ha;clear ha hz
 go_enter Tryz.func155,Tryz.ntmps155
 go_wp2_with fail
 refine HA.1.mono ?_;rintro r w' ⟨rfl,rfl⟩
 go_wp2_with fail
 exact jfb
theorem PG{w:World}(hG:Gl w){s:ByteArray}(h1:s.size=1)(h0:0<s.size)(hz:((s[0]'h0).toNat:Int)=49):Calls Tryz.prog 124 #[.string s,.int .i64 64] w fun r w'=>r= .returned (.tuple #[.float .f64 (flt 1),.nilIface])∧w'=w:=by
 have ha:=KX hG h1 h0 hz;have HA:=zh ha;clear ha hz
 go_enter Tryz.func124,Tryz.ntmps124
 exact jxe
theorem TJ{w:World}(hG:Gl w){s:ByteArray}(h1:s.size=1)(h0:0<s.size)(hz:((s[0]'h0).toNat:Int)=49):Calls Tryz.prog 100 #[.string s,.int .i64 64] w fun r w'=>r= .returned (.tuple #[.float .f64 (flt 1),.nilIface])∧w'=w:=by
 have ha:=PG hG h1 h0 hz;have HA:=zh ha;clear ha hz
 go_enter Tryz.func100,Tryz.ntmps100
 exact jxe
theorem Vu{w:World}(hG:Gl w){s:ByteArray}(h1:s.size=1)(h0:0<s.size){z:Int}(hz:((s[0]'h0).toNat:Int)=z)(h:z=49):Calls Tryz.prog 100 #[.string s,.int .i64 64] w fun r w'=>r= .returned (.tuple #[.float .f64 (flt (z -48).toNat),.nilIface])∧w'=w:=by
 subst h;exact TJ hG h1 h0 hz
abbrev Ms(t:Ud):Value:= .agg #[.int .i64 t.kind,.string t.text,.float .f64 t.num,.int .i64 t.fr,.int .i64 t.to]
abbrev By(kind:Int)(text:ByteArray)(num:Nat)(fr te:Int):Obj:= .cells #[.int .i64 kind,.string text,.float .f64 num,.int .i64 fr,.int .i64 te] 90
theorem Vh{s:ByteArray}:∀{f i r:Nat},Mw s f i=some r→i≤r∧(i≤s.size→r≤s.size)
 |0,_,_,h=>by simp [Mw] at h
 | f+1,i,r,h=>by
   rw [Mw] at h
   by_cases hi:i<s.size
   ·rw [Ec hi] at h;simp only at h
    split at h
    ·have:=Vh h;omega
    split at h
    ·cases h
    have:=Option.some.inj h;omega
   rw [Em jh] at h;have:=Option.some.inj h;omega
theorem Th{s:ByteArray}:∀{f i r:Nat},Fg s f i=some r→i≤r∧(i≤s.size→r≤s.size)
 |0,_,_,h=>by simp [Fg] at h
 | f+1,i,r,h=>by
   rw [Fg] at h
   by_cases hi:i<s.size
   ·rw [Ec hi] at h;simp only at h
    split at h
    ·have:=Th h;omega
    have:=Option.some.inj h;omega
   rw [Em jh] at h;have:=Option.some.inj h;omega
theorem Tn{s:ByteArray}{i e:Nat}(h:Fz s i=some e)(hi:i<s.size):e=i∨e=i+1:=by
 rw [Fz,Ec hi] at h;simp only at h
 split at h
 ·split at h
  ·exact .inr (Option.some.inj h).symm
  split at h
  ·cases h
  exact .inr (Option.some.inj h).symm
 split at h
 ·cases h
 exact .inl (Option.some.inj h).symm
theorem Yl{s:ByteArray}{i:Nat}{c:Int}{x:ByteArray}(h:Fx s i c=some x)(hi:i<s.size):0<x.size∧x.size≤2:=by
 unfold Fx at h
 split at h
 ·rename_i hc;simp at hc;obtain rfl:=Option.some.inj h;rw [ByteArray.size_extract];omega
 split at h
 ·obtain rfl:=Option.some.inj h;rw [ByteArray.size_extract];omega
 cases h
theorem WZ{x:ByteArray}(h:0<x.size):(x.toList==(⟨#[]⟩:ByteArray).toList)=false:=by
 rw [Ct]
 cases hb:same x ⟨#[]⟩
 ·rfl
 have:=Cv.1 hb;subst this;exact absurd h zi
theorem DZ{s:ByteArray}{a:Nat}(h:a<s.size)(h0:0<(s.extract a (a+1)).size):(s.extract a (a+1))[0]'h0=s[a]'h:=by
 rw [ByteArray.getElem_extract];simp
theorem gtF{c:Int}(h:c=49):(FloatKind.f64.format.order (flt (c -48).toNat) 9218868437227405311==some Ordering.gt)=false:=by
 rcases h with rfl|rfl<;>kernel_rfl
set_option maxRecDepth 1000000 in
set_option maxHeartbeats 4000000 in
theorem FX{w:World}(hG:Gl w){s:ByteArray}{i a:Nat}{op:Bool}  (hpos:0<i) (hi:i≤s.size) (hsa:∀W,Calls Tryz.prog 91 #[.string s,.int .i64 i] W fun e w'=>e= .returned (.int .i64 a)∧w'=W) (hs:s.size≤100000) (hale:a=s.size):Calls Tryz.prog 62 #[.string s,.int .i64 i,.bool op] w fun r w'=>r= .returned (.tuple #[Ms ⟨0,bs [],0,a,a⟩,.int .i64 0])∧Ac [] w w':=by
 have HSA:=zh hsa;have HG:=zh hG;clear hsa hG;subst hale
 go_enter Tryz.func62,Tryz.ntmps62
 go_wp2_with fail
 refine (HSA.1 _).mono ?_;rintro r w1 ⟨rfl,rfl⟩
 go_wp2_with ((with_reducible show wpList _ _ _ (Oper.mk none (.store 90 _ _) _ _ _ _::_) _ _);refine Oa 90 (w.heap.size+1) 0 _ (show _=some (By 0 ⟨#[]⟩ 0 0 0) from zm) rfl (.agg #[.int .i64 0,.string ⟨#[]⟩,.float .f64 0,.int .i64 s.size,.int .i64 s.size]) rfl qh jj ji ?_)
 intro w2 hs2;have hr2:=hs2.row;have hz2:=hs2.size;simp at hr2 hz2;have hk2:Ac [] w w2:=((Ac.alloc [] w (By 0 ⟨#[]⟩ 0 0 0)).trans (Ac.alloc [] _ (By 0 ⟨#[]⟩ 0 0 0)) qg).trans hs2.keeps qg;have hq2:=hs2.at (Ed (o:=By 0 ⟨#[]⟩ 0 0 0) (Ca w (By 0 ⟨#[]⟩ 0 0 0))) jh;have HR2:=zh hr2;have HK2:=zh hk2;have HQ2:=zh hq2;clear hs2 hr2 hk2 hq2
 go_wp2_with ((with_reducible show wpList _ _ _ (Oper.mk none (.store 90 _ _) _ _ _ _::_) _ _);refine Oa 90 (w.heap.size+2) 0 _ (show _=some (By 0 ⟨#[]⟩ 0 0 0) from qm) zu (.agg #[.int .i64 0,.string ⟨#[]⟩,.float .f64 0,.int .i64 s.size,.int .i64 0]) rfl qh jj ji ?_)
 intro w3 hs3;have hq3:=hs3.at (Ed (o:=By 0 ⟨#[]⟩ 0 0 0) HQ2.1) jh;have hr3:=hs3.at (Ed (o:=By 0 ⟨#[]⟩ 0 0 0) HR2.1) jh;have hk3:Ac [] w w3:=(HK2.1.trans (Ac.alloc [] w2 (By 0 ⟨#[]⟩ 0 0 0)) qg).trans hs3.keeps qg;clear hs3 hz2 HR2 HK2 HQ2;have HG3:=zh (HG.1.keep hk3 qg);have HQ3:=zh hq3;have HR3:=zh hr3;have HK3:=zh hk3;clear hq3 hr3 hk3 HSA HG;generalize hRR:w.heap.size=R at*
 have HRW:Hd (w.heap.size=R):=zh hRR;clear hRR;have d0:=Aa HR3.1 0;have df0:=Ab HR3.1 0;have d1:=Aa HR3.1 1;have df1:=Ab HR3.1 1;have d2:=Aa HR3.1 2;have df2:=Ab HR3.1 2;have d3:=Aa HR3.1 3;have df3:=Ab HR3.1 3;have d4:=Aa HR3.1 4;have df4:=Ab HR3.1 4;simp at d0 d1 d2 d3 d4
 go_wp2_with ((with_reducible show wpList _ _ _ (Oper.mk none (.store 90 _ _) _ _ _ _::_) _ _);refine Oa 90 R 0 _ HQ3.1 rfl (.agg #[.int .i64 0,.string ⟨#[]⟩,.float .f64 0,.int .i64 s.size,.int .i64 s.size]) rfl qh jj ji ?_)
 intro w9 hs9;have x0:=Aa hs9.row 0;have x1:=Aa hs9.row 1;have x2:=Aa hs9.row 2;have x3:=Aa hs9.row 3;have x4:=Aa hs9.row 4;simp at x0 x1 x2 x3 x4;have hk9:Ac [] w w9:=Ac.trans HK3.1 hs9.keeps jl;clear hs9
 go_wp2_with fail
 exact bodyPost_ret (v:= .tuple #[.agg #[.int .i64 0,.string ⟨#[]⟩,.float .f64 0,.int .i64 s.size,.int .i64 s.size],.int .i64 0]) zk rfl ⟨rfl,hk9⟩
set_option maxRecDepth 1000000 in
set_option maxHeartbeats 4000000 in
theorem CW{w:World}(hG:Gl w){s:ByteArray}{a:Nat}{op:Bool}{c:Int}{e:Nat}(hsa:∀W,Calls Tryz.prog 91 #[.string s,.int .i64 0] W fun e w'=>e= .returned (.int .i64 a)∧w'=W)(hs:s.size≤100000)(h3:a<s.size)(hz:((s[a]'h3).toNat:Int)=c)(h10:¬c=10)(hl:Db c=true)(hwe:Fg s (s.size+1) a=some e):Calls Tryz.prog 62 #[.string s,.int .i64 0,.bool op] w fun r w'=>r= .returned (.tuple #[Ms ⟨Il s (s.extract a e) e,s.extract a e,0,a,e⟩,.int .i64 0])∧Ac [] w w':=by
 exact zmd
set_option maxRecDepth 1000000 in
set_option maxHeartbeats 4000000 in
theorem CX{w:World}(hG:Gl w){s:ByteArray}{i a:Nat}{op:Bool}{c:Int}{e:Nat}(hpos:0<i)(hi:i≤s.size)(hsa:∀W,Calls Tryz.prog 91 #[.string s,.int .i64 i] W fun e w'=>e= .returned (.int .i64 a)∧w'=W)(hs:s.size≤100000)(h3:a<s.size)(hz:((s[a]'h3).toNat:Int)=c)(h10:¬c=10)(hl:Db c=true)(hwe:Fg s (s.size+1) a=some e):Calls Tryz.prog 62 #[.string s,.int .i64 i,.bool op] w fun r w'=>r= .returned (.tuple #[Ms ⟨Il s (s.extract a e) e,s.extract a e,0,a,e⟩,.int .i64 0])∧Ac [] w w':=by
 exact zmd
set_option maxRecDepth 1000000 in
set_option maxHeartbeats 4000000 in
theorem CY{w:World}(hG:Gl w){s:ByteArray}{i a:Nat}{op:Bool}{c:Int}(hpos:0<i)(hi:i≤s.size)(hsa:∀W,Calls Tryz.prog 91 #[.string s,.int .i64 i] W fun e w'=>e= .returned (.int .i64 a)∧w'=W)(hs:s.size≤100000)(h3:a<s.size)(hz:((s[a]'h3).toNat:Int)=c)(h10:¬c=10)(hl:Db c=false)(h34:¬c=34)(h47:¬c=47)(hnu:Fz s a=some (a+1))(hcc:c=49):Calls Tryz.prog 62 #[.string s,.int .i64 i,.bool op] w fun r w'=>r= .returned (.tuple #[Ms ⟨2,s.extract a (a+1),flt (c -48).toNat,a,a+1⟩,.int .i64 0])∧Ac [] w w':=by
 have HSA:=zh hsa;have HG:=zh hG;clear hsa hG;have n10:(c==10)=false:=beq_false_of_ne h10;have n34:(c==34)=false:=beq_false_of_ne h34;have hale:a≤s.size:=by omega
 have n47:(c==47)=false:=beq_false_of_ne h47;clear h47;have hna:=fun W=>Tm hnu hale jh W
 have hx1:(s.extract a (a+1)).size=1:=by rw [ByteArray.size_extract];omega
 have hx0:0<(s.extract a (a+1)).size:=by omega
 have hpf:=fun W (hG:Gl W)=>Vu hG hx1 hx0 (z:=c) (by rw [DZ h3 hx0];exact hz) hcc
 have hgt:=gtF hcc;have HPF:=zh hpf;have HNU:=zh hna;clear hpf hx1 hx0 hcc hna hnu;clear h10 h34
 go_enter Tryz.func62,Tryz.ntmps62
 go_wp2_with fail
 refine (HSA.1 _).mono ?_;rintro r w1 ⟨rfl,rfl⟩
 go_wp2_with ((with_reducible show wpList _ _ _ (Oper.mk none (.store 90 _ _) _ _ _ _::_) _ _);refine Oa 90 (w.heap.size+1) 0 _ (show _=some (By 0 ⟨#[]⟩ 0 0 0) from zm) rfl (.agg #[.int .i64 0,.string ⟨#[]⟩,.float .f64 0,.int .i64 a,.int .i64 a]) rfl qh jj ji ?_)
 intro w2 hs2;have hr2:=hs2.row;have hz2:=hs2.size;simp at hr2 hz2;have hk2:Ac [] w w2:=((Ac.alloc [] w (By 0 ⟨#[]⟩ 0 0 0)).trans (Ac.alloc [] _ (By 0 ⟨#[]⟩ 0 0 0)) qg).trans hs2.keeps qg;have hq2:=hs2.at (Ed (o:=By 0 ⟨#[]⟩ 0 0 0) (Ca w (By 0 ⟨#[]⟩ 0 0 0))) jh;have HR2:=zh hr2;have HK2:=zh hk2;have HQ2:=zh hq2;clear hs2 hr2 hk2 hq2
 go_wp2_with ((with_reducible show wpList _ _ _ (Oper.mk none (.store 90 _ _) _ _ _ _::_) _ _);refine Oa 90 (w.heap.size+2) 0 _ (show _=some (By 0 ⟨#[]⟩ 0 0 0) from qm) zu (.agg #[.int .i64 0,.string ⟨#[]⟩,.float .f64 0,.int .i64 a,.int .i64 0]) rfl qh jj ji ?_)
 intro w3 hs3;have hq3:=hs3.at (Ed (o:=By 0 ⟨#[]⟩ 0 0 0) HQ2.1) jh;have hr3:=hs3.at (Ed (o:=By 0 ⟨#[]⟩ 0 0 0) HR2.1) jh;have hk3:Ac [] w w3:=(HK2.1.trans (Ac.alloc [] w2 (By 0 ⟨#[]⟩ 0 0 0)) qg).trans hs3.keeps qg;clear hs3 hz2 HR2 HK2 HQ2;have HG3:=zh (HG.1.keep hk3 qg);have HQ3:=zh hq3;have HR3:=zh hr3;have HK3:=zh hk3;clear hq3 hr3 hk3 HSA HG;generalize hRR:w.heap.size=R at*
 have HRW:Hd (w.heap.size=R):=zh hRR;clear hRR
 go_wp2_with fail
 refine (Hr c _).mono ?_;rintro r w' ⟨rfl,hw'⟩;rw [hw'];clear hw';rw [hl]
 go_wp2_with fail
 refine (HNU.1 _).mono ?_;rintro r w' ⟨rfl,hw'⟩;rw [hw'];clear hw'
 go_wp2_with fail
 refine (HPF.1 _ HG3.1).mono ?_;rintro r w' ⟨rfl,hw'⟩;rw [hw'];clear hw'
 go_wp2_with ((with_reducible show wpList _ _ _ (Oper.mk none (.store 90 _ _) _ _ _ _::_) _ _);refine Oa 90 R 0 _ HQ3.1 rfl (.agg #[.int .i64 2,.string (s.extract a (a+1)),.float .f64 (flt (c -48).toNat),.int .i64 a,.int .i64 ((a:Int)+1)]) rfl qh jj ji ?_)
 intro w9 hs9;have x0:=Aa hs9.row 0;have x1:=Aa hs9.row 1;have x2:=Aa hs9.row 2;have x3:=Aa hs9.row 3;have x4:=Aa hs9.row 4;simp at x0 x1 x2 x3 x4;have hk9:Ac [] w w9:=Ac.trans HK3.1 hs9.keeps jl;clear hs9
 go_wp2_with fail
 exact bodyPost_ret (v:= .tuple #[.agg #[.int .i64 2,.string (s.extract a (a+1)),.float .f64 (flt (c -48).toNat),.int .i64 a,.int .i64 ((a:Int)+1)],.int .i64 0]) zk rfl ⟨rfl,hk9⟩
set_option maxRecDepth 1000000 in
set_option maxHeartbeats 4000000 in
theorem AO{w:World}(hG:Gl w){s:ByteArray}{a:Nat}{op:Bool}{c:Int}{x:ByteArray}(hsa:∀W,Calls Tryz.prog 91 #[.string s,.int .i64 0] W fun e w'=>e= .returned (.int .i64 a)∧w'=W)(hs:s.size≤100000)(h3:a<s.size)(hz:((s[a]'h3).toNat:Int)=c)(h10:¬c=10)(hl:Db c=false)(h34:¬c=34)(h47:¬c=47)(hnu:Fz s a=some a)(hsg:Fx s a c=some x):Calls Tryz.prog 62 #[.string s,.int .i64 0,.bool op] w fun r w'=>r= .returned (.tuple #[Ms ⟨9,x,0,a,a+x.size⟩,.int .i64 0])∧Ac [] w w':=by
 exact zod
set_option maxRecDepth 1000000 in
set_option maxHeartbeats 4000000 in
theorem AP{w:World}(hG:Gl w){s:ByteArray}{i a:Nat}{op:Bool}{c:Int}{x:ByteArray}(hpos:0<i)(hi:i≤s.size)(hsa:∀W,Calls Tryz.prog 91 #[.string s,.int .i64 i] W fun e w'=>e= .returned (.int .i64 a)∧w'=W)(hs:s.size≤100000)(h3:a<s.size)(hz:((s[a]'h3).toNat:Int)=c)(h10:¬c=10)(hl:Db c=false)(h34:¬c=34)(h47:¬c=47)(hnu:Fz s a=some a)(hsg:Fx s a c=some x):Calls Tryz.prog 62 #[.string s,.int .i64 i,.bool op] w fun r w'=>r= .returned (.tuple #[Ms ⟨9,x,0,a,a+x.size⟩,.int .i64 0])∧Ac [] w w':=by
 exact zod
theorem Wa{w:World}(hG:Gl w){s:ByteArray}{i:Nat}{op:Bool}{t:Ud}(h:Be s i op=some t)(hi:i≤s.size)(hs:s.size≤100000):Calls Tryz.prog 62 #[.string s,.int .i64 i,.bool op] w fun r w'=>r= .returned (.tuple #[Ms t,.int .i64 0])∧Ac [] w w':=by
 have hm:min i s.size=i:=by omega
 rw [Be,hm] at h
 cases hsk:Mw s (s.size+1) i with
 |none=>rw [hsk] at h;simp at h
 | some a=>
  rw [hsk] at h;simp only [Option.bind_eq_bind,Option.bind_some] at h;have hale:=(Vh hsk).2 hi;have hsa:=fun W=>NL hsk hi jh W
  by_cases h3:a<s.size
  ·rw [Ec h3] at h;generalize hz:((s[a]'h3).toNat:Int)=c at*
   simp only at h
   by_cases hc:c=10∨c=34∨c=47
   ·rw [if_pos hc] at h;cases h
   rw [if_neg hc] at h;have h10:¬c=10:=fun x=>hc (.inl x)
   have h34:¬c=34:=fun x=>hc (.inr (.inl x))
   have h4:¬c=47:=fun x=>hc (.inr (.inr x))
   cases hl:Db c
   ·rw [hl] at h;simp only [Bool.false_eq_true,if_false,FS,Option.bind_eq_bind] at h
    cases hnu:Fz s a with
    |none=>rw [hnu] at h;simp at h
    | some e=>
     rw [hnu] at h;simp only [Option.bind_some] at h
     rcases Tn hnu h3 with rfl|rfl
     ·rw [if_neg (Nat.lt_irrefl _)] at h
      cases hsg:Fx s e c with
      |none=>rw [hsg] at h;simp at h
      |some x=>
       rw [hsg] at h;simp only [Option.bind_some,Option.some.injEq] at h;subst h
       rcases Nat.eq_zero_or_pos i with rfl|hpos
       ·exact AO hG hsa hs h3 hz h10 hl h34 h4 hnu hsg
       exact AP hG hpos hi hsa hs h3 hz h10 hl h34 h4 hnu hsg
     rw [if_pos (Nat.lt_succ_self _)] at h
     split at h
     ·rename_i hcc;simp only [Option.some.injEq] at h;subst h;exact CY hG (Nat.pos_of_ne_zero hcc.1) hi hsa hs h3 hz h10 hl h34 h4 hnu hcc.2
     cases h
   rw [hl] at h;simp only [if_true] at h
   cases hwe:Fg s (s.size+1) a with
   |none=>rw [hwe] at h;simp at h
   |some e=>
    rw [hwe] at h;simp only [Option.bind_some,Option.some.injEq] at h;subst h
    rcases Nat.eq_zero_or_pos i with rfl|hpos
    ·exact CW hG hsa hs h3 hz h10 hl hwe
    exact CX hG hpos hi hsa hs h3 hz h10 hl hwe
  rw [Em jh] at h;simp only at h
  split at h
  ·cases h
  rename_i h0;obtain rfl:=Option.some.inj h;exact FX hG (Nat.pos_of_ne_zero h0) hi hsa hs jh
structure Bq where
 pos:Nat
 opn:Int
 ng:Bool
abbrev LD(s:ByteArray)(st:Bq):Obj:= .cells #[.string s,.int .i64 st.pos,.int .i64 st.opn,.bool st.ng,.int .i64 0,.complex .f64 0 0] 87
structure PP (s:ByteArray) (p:Nat) (st:Bq) (w:World):Prop where
 gl:Gl w
 row:w.heap[p]? =some (LD s st)
 p:14<p
 size:s.size≤4096
 le:st.pos≤s.size
 ob: -100≤st.opn∧st.opn≤40
theorem PP.keep{s:ByteArray}{p:Nat}{st:Bq}{w w':World}(h:PP s p st w)(hk:Ac [] w w'):PP s p st w':=
 ⟨h.gl.keep hk qg,hk.at h.row qg,h.p,h.size,h.le,h.ob⟩
theorem Eo{s:ByteArray}{i:Nat}{op:Bool}{t:Ud}(h:Be s i op=some t)(hi:i≤s.size):t.fr≤t.to∧t.to≤s.size∧t.text.size≤s.size:=by
 have hm:min i s.size=i:=by omega
 have hb:(bs []).size=0:=rfl;rw [Be,hm] at h
 cases hsk:Mw s (s.size+1) i with
 |none=>rw [hsk] at h;simp at h
 | some a=>
  rw [hsk] at h;simp only [Option.bind_eq_bind,Option.bind_some] at h;have hale:=(Vh hsk).2 hi
  by_cases h3:a<s.size
  ·rw [Ec h3] at h;simp only at h
   split at h
   ·cases h
   split at h
   ·cases hwe:Fg s (s.size+1) a with
    |none=>rw [hwe] at h;simp at h
    |some e=>
     rw [hwe] at h;simp only [Option.bind_some,Option.some.injEq] at h;subst h;have:=Th hwe;simp only [ByteArray.size_extract];omega
   rw [FS] at h
   cases hnu:Fz s a with
   |none=>rw [hnu] at h;simp at h
   | some e=>
    rw [hnu] at h;simp only [Option.bind_eq_bind,Option.bind_some] at h;have hle:=Tn hnu h3
    split at h
    ·split at h
     ·obtain rfl:=Option.some.inj h;simp only [ByteArray.size_extract];omega
     cases h
    cases hsg:Fx s a ((s[a]'h3).toNat:Int) with
    |none=>rw [hsg] at h;simp at h
    | some x=>
     rw [hsg] at h;simp only [Option.bind_some,Option.some.injEq] at h;subst h;have h2:=Yl hsg h3
     have h4:a+x.size≤s.size:=by
      unfold Fx at hsg
      split at hsg
      ·rename_i hc;simp at hc;obtain rfl:=Option.some.inj hsg;rw [ByteArray.size_extract];omega
      split at hsg
      ·obtain rfl:=Option.some.inj hsg;rw [ByteArray.size_extract];omega
      cases hsg
     simp only;omega
  rw [Em jh] at h;simp only at h
  split at h
  ·cases h
  obtain rfl:=Option.some.inj h;simp only;omega
theorem Eh{s:ByteArray}{p:Nat}{st:Bq}{w:World}(h:PP s p st w):Calls Tryz.prog 34 #[.pointer (some ⟨p,0,none⟩)] w fun r w'=>r= .returned (.bool true)∧w'=w:=by
 have c4:=Aa h.row 4;simp at c4;have hlt:=Ad h.row;clear h
 go_enter Tryz.func34,Tryz.ntmps34
 go_wp2_with fail
 go_ret
 exact Qd
set_option maxHeartbeats 1000000 in
theorem Vs{s:ByteArray}{p:Nat}{st:Bq}{w:World}(h:PP s p st w){i:Nat}{t:Ud}(ht:Be s i false=some t)(hi:i≤s.size):Calls Tryz.prog 61 #[.pointer (some ⟨p,0,none⟩),.int .i64 i] w fun r w'=>r= .returned (.tuple #[Ms t,.bool true])∧Ac [] w w':=by
 have c0:=Aa h.row 0;simp at c0;have hlt:=Ad h.row;have hN:=fun W (hG:Gl W)=>Wa hG ht hi zbb
 have HG:=zh h.gl;have HN:=zh hN;clear h hN ht;obtain ⟨kd,tx,nm,fr,te⟩:=t
 go_enter Tryz.func61,Tryz.ntmps61
 go_wp2_with fail
 refine (HN.1 _ (HG.1.keep (Ac.alloc [] w (By 0 ⟨#[]⟩ 0 0 0)) qg)).mono ?_;rintro r w1 ⟨rfl,hk1⟩;have hq1:=hk1.at (Ca w (By 0 ⟨#[]⟩ 0 0 0)) qg;have HQ1:=zh hq1;have HK1:=zh ((Ac.alloc [] w (By 0 ⟨#[]⟩ 0 0 0)).trans hk1 qg);clear hq1 hk1
 go_wp2_with ((with_reducible show wpList _ _ _ (Oper.mk none (.store 90 _ _) _ _ _ _::_) _ _);refine Oa 90 w1.heap.size 0 _ (Ca _ _) rfl (.agg #[.int .i64 kd,.string tx,.float .f64 nm,.int .i64 fr,.int .i64 te]) rfl qh jj ji ?_)
 intro w2 hs2;have x0:=Aa hs2.row 0;have x1:=Aa hs2.row 1;have x2:=Aa hs2.row 2;have x3:=Aa hs2.row 3;have x4:=Aa hs2.row 4;simp at x0 x1 x2 x3 x4;have hsz1:=HK1.1.size;have HQ2:=zh (hs2.at (Ed (o:=By 0 ⟨#[]⟩ 0 0 0) HQ1.1) (by have:=Ad HQ1.1;omega));have HK2:=zh ((HK1.1.trans (Ac.alloc [] w1 (By 0 ⟨#[]⟩ 0 0 0)) qg).trans hs2.keeps (by simp;exact hsz1));clear hs2
 go_wp2_with ((with_reducible show wpList _ _ _ (Oper.mk none (.store 90 _ _) _ _ _ _::_) _ _);refine Oa 90 w.heap.size 0 _ HQ2.1 rfl (.agg #[.int .i64 kd,.string tx,.float .f64 nm,.int .i64 fr,.int .i64 te]) rfl qh jj ji ?_)
 intro w3 hs3;have y0:=Aa hs3.row 0;have y1:=Aa hs3.row 1;have y2:=Aa hs3.row 2;have y3:=Aa hs3.row 3;have y4:=Aa hs3.row 4;simp at y0 y1 y2 y3 y4;have HK3:=zh (HK2.1.trans hs3.keeps qg);clear hs3 x0 x1 x2 x3 x4
 go_wp2_with fail
 exact bodyPost_ret (v:= .tuple #[.agg #[.int .i64 kd,.string tx,.float .f64 nm,.int .i64 fr,.int .i64 te],.bool true]) (by simp [results,Jo,go_sem,y0,y1,y2,y3,y4]) rfl ⟨rfl,HK3.1⟩
def Ya(t:Ud)(x:ByteArray):Bool:=(t.kind==9||t.kind==8)&&same t.text x
set_option maxHeartbeats 2000000 in
theorem Ky{s:ByteArray}{p:Nat}{st:Bq}{w:World}(h:PP s p st w){t:Ud}(ht:Be s st.pos false=some t)(x:ByteArray):Calls Tryz.prog 64 #[.pointer (some ⟨p,0,none⟩),.string x] w fun r w'=>r= .returned (.bool (Ya t x))∧Ac [] w w':=by
 have c1:=Aa h.row 1;simp at c1;have hlt:=Ad h.row;have H:=zh h;have HT:=zh ht;clear h ht;obtain ⟨kd,tx,nm,fr,te⟩:=t;have hsq:=Ct tx x
 by_cases h9:kd=9
 ·have hv:Ya ⟨kd,tx,nm,fr,te⟩ x=same tx x:=by simp [Ya,h9]
  rw [hv];clear hv;subst h9
  go_enter Tryz.func64,Tryz.ntmps64
  go_wp2_with fail
  refine MV ?_;rintro r w' ⟨rfl,hw'⟩;rw [hw'];clear hw'
  go_wp2_with fail
  refine RU ?_;rintro r w1 ⟨rfl,hk1⟩;have HK1:=zh hk1;clear hk1
  go_wp2_with ((with_reducible show wpList _ _ _ (Oper.mk none (.store 90 _ _) _ _ _ _::_) _ _);refine Oa 90 w1.heap.size 0 _ (Ca _ _) rfl (.agg #[.int .i64 9,.string tx,.float .f64 nm,.int .i64 fr,.int .i64 te]) rfl qh jj ji ?_)
  exact jxd
 have n9:(kd==9)=false:=beq_false_of_ne h9
 by_cases h8:kd=8
 ·have hv:Ya ⟨kd,tx,nm,fr,te⟩ x=same tx x:=by simp [Ya,h8]
  rw [hv];clear hv;subst h8;clear n9 h9
  go_enter Tryz.func64,Tryz.ntmps64
  go_wp2_with fail
  refine MV ?_;rintro r w' ⟨rfl,hw'⟩;rw [hw'];clear hw'
  go_wp2_with fail
  refine RU ?_;rintro r w1 ⟨rfl,hk1⟩;have HK1:=zh hk1;clear hk1
  go_wp2_with ((with_reducible show wpList _ _ _ (Oper.mk none (.store 90 _ _) _ _ _ _::_) _ _);refine Oa 90 w1.heap.size 0 _ (Ca _ _) rfl (.agg #[.int .i64 8,.string tx,.float .f64 nm,.int .i64 fr,.int .i64 te]) rfl qh jj ji ?_)
  exact jxd
 have n8:(kd==8)=false:=beq_false_of_ne h8;have hv:Ya ⟨kd,tx,nm,fr,te⟩ x=false:=by simp [Ya,h8,h9]
 rw [hv];clear hv;clear h8 h9
 go_enter Tryz.func64,Tryz.ntmps64
 go_wp2_with fail
 refine MV ?_;rintro r w' ⟨rfl,hw'⟩;rw [hw'];clear hw'
 go_wp2_with fail
 refine RU ?_;rintro r w1 ⟨rfl,hk1⟩;have HK1:=zh hk1;clear hk1
 go_wp2_with ((with_reducible show wpList _ _ _ (Oper.mk none (.store 90 _ _) _ _ _ _::_) _ _);refine Oa 90 w1.heap.size 0 _ (Ca _ _) rfl (.agg #[.int .i64 kd,.string tx,.float .f64 nm,.int .i64 fr,.int .i64 te]) rfl qh jj ji ?_)
 exact jxd
set_option maxHeartbeats 2000000 in
theorem Ji{s:ByteArray}{p:Nat}{st:Bq}{w:World}(h:PP s p st w)(t:Ud)(hf:t.fr≤s.size):Calls Tryz.prog 126 #[.pointer (some ⟨p,0,none⟩),Ms t] w fun r w'=>r= .returned (.complex .f64 (Ag s t.fr).1 (Ag s t.fr).2)∧Ac [] w w':=by
 have c0:=Aa h.row 0;simp at c0;have hlt:=Ad h.row;have hpl:=fun W=>KZ hf zbb W
 have HPL:=zh hpl;clear h hpl;obtain ⟨kd,tx,nm,fr,te⟩:=t
 go_enter Tryz.func126,Tryz.ntmps126
 go_upto_region 1 with fail
 go_quiet ((go_at_call 102;refine Calls.quiet_of_same (HPL.1 _)))
 go_wp2_with fail
 go_ret
 exact ⟨rfl,(Ac.alloc [] w _).trans (Ac.drewN [] _ nq) qg⟩
set_option maxHeartbeats 2000000 in
theorem SA{s:ByteArray}{p:Nat}{st:Bq}{w:World}(h:PP s p st w){t:Ud}(ht:Be s st.pos false=some t){x:ByteArray}(hx:Ya t x=false):Calls Tryz.prog 104 #[.pointer (some ⟨p,0,none⟩),.string x] w fun r w'=>r= .returned (.bool false)∧Ac [] w w':=by
 have hi:=Ky h ht x;rw [hx] at hi;have HI:=zh hi;clear hi hx ht h
 go_enter Tryz.func104,Tryz.ntmps104
 go_wp2_with fail
 refine HI.1.mono ?_;rintro r w' ⟨rfl,hk⟩
 go_wp2_with fail
 go_ret
 exact ⟨rfl,hk⟩
set_option maxHeartbeats 2000000 in
theorem SE{s:ByteArray}{p:Nat}{st:Bq}{w:World}(h:PP s p st w){t:Ud}(ht:Be s st.pos false=some t)(ho:st.opn<40)(hx:Ya t ⟨#[40]⟩=true):Calls Tryz.prog 104 #[.pointer (some ⟨p,0,none⟩),.string ⟨#[40]⟩] w fun r w'=>r= .returned (.bool true)∧PP s p ⟨t.to,st.opn+1,st.ng⟩ w'∧Ac [p] w w':=by
 have hi:=Ky h ht ⟨#[40]⟩;exact znd
set_option maxHeartbeats 2000000 in
theorem SC{s:ByteArray}{p:Nat}{st:Bq}{w:World}(h:PP s p st w){t:Ud}(ht:Be s st.pos false=some t)(ho:st.opn<40)(hx:Ya t ⟨#[91]⟩=true):Calls Tryz.prog 104 #[.pointer (some ⟨p,0,none⟩),.string ⟨#[91]⟩] w fun r w'=>r= .returned (.bool true)∧PP s p ⟨t.to,st.opn+1,st.ng⟩ w'∧Ac [p] w w':=by
 have hi:=Ky h ht ⟨#[91]⟩;exact znd
set_option maxHeartbeats 2000000 in
theorem MZ{s:ByteArray}{p:Nat}{st:Bq}{w:World}(h:PP s p st w){t:Ud}(ht:Be s st.pos false=some t)(ho:st.opn<40)(hx:Ya t ⟨#[123]⟩=true):Calls Tryz.prog 104 #[.pointer (some ⟨p,0,none⟩),.string ⟨#[123]⟩] w fun r w'=>r= .returned (.bool true)∧PP s p ⟨t.to,st.opn+1,st.ng⟩ w'∧Ac [p] w w':=by
 have hi:=Ky h ht ⟨#[123]⟩;exact znd
set_option maxHeartbeats 2000000 in
theorem SD{s:ByteArray}{p:Nat}{st:Bq}{w:World}(h:PP s p st w){t:Ud}(ht:Be s st.pos false=some t)(ho: -100<st.opn)(hx:Ya t ⟨#[41]⟩=true):Calls Tryz.prog 104 #[.pointer (some ⟨p,0,none⟩),.string ⟨#[41]⟩] w fun r w'=>r= .returned (.bool true)∧PP s p ⟨t.to,st.opn -1,st.ng⟩ w'∧Ac [p] w w':=by
 have hi:=Ky h ht ⟨#[41]⟩;exact jnd
set_option maxHeartbeats 2000000 in
theorem SB{s:ByteArray}{p:Nat}{st:Bq}{w:World}(h:PP s p st w){t:Ud}(ht:Be s st.pos false=some t)(ho: -100<st.opn)(hx:Ya t ⟨#[93]⟩=true):Calls Tryz.prog 104 #[.pointer (some ⟨p,0,none⟩),.string ⟨#[93]⟩] w fun r w'=>r= .returned (.bool true)∧PP s p ⟨t.to,st.opn -1,st.ng⟩ w'∧Ac [p] w w':=by
 have hi:=Ky h ht ⟨#[93]⟩;exact jnd
set_option maxHeartbeats 2000000 in
theorem MY{s:ByteArray}{p:Nat}{st:Bq}{w:World}(h:PP s p st w){t:Ud}(ht:Be s st.pos false=some t)(ho: -100<st.opn)(hx:Ya t ⟨#[125]⟩=true):Calls Tryz.prog 104 #[.pointer (some ⟨p,0,none⟩),.string ⟨#[125]⟩] w fun r w'=>r= .returned (.bool true)∧PP s p ⟨t.to,st.opn -1,st.ng⟩ w'∧Ac [p] w w':=by
 have hi:=Ky h ht ⟨#[125]⟩;exact jnd
set_option maxHeartbeats 2000000 in
theorem FE{s:ByteArray}{p:Nat}{st:Bq}{w:World}(h:PP s p st w){t:Ud}(ht:Be s st.pos false=some t){x:ByteArray}(x40:(x.toList== [40])=false)(x91:(x.toList== [91])=false)(x123:(x.toList== [123])=false)(x41:(x.toList== [41])=false)(x93:(x.toList== [93])=false)(x125:(x.toList== [125])=false)(hx:Ya t x=true):Calls Tryz.prog 104 #[.pointer (some ⟨p,0,none⟩),.string x] w fun r w'=>r= .returned (.bool true)∧PP s p ⟨t.to,st.opn,st.ng⟩ w'∧Ac [p] w w':=by
 have hi:=Ky h ht x;rw [hx] at hi;obtain ⟨le1,le2,le3⟩:=Eo ht h.le;have hob:=h.ob;have H:=zh h;have HI:=zh hi;have HT:=zh ht;clear hi hx ht h;obtain ⟨kd,tx,nm,fr,te⟩:=t;obtain ⟨pos,opn,ng⟩:=st;simp only at le1 le2 le3 hob;obtain ⟨ob1,ob2⟩:=hob
 go_enter Tryz.func104,Tryz.ntmps104
 go_wp2_with fail
 refine HI.1.mono ?_;rintro r w0 ⟨rfl,hk0⟩;have HP0:=zh (H.1.keep hk0);have HK0:=zh hk0;have c1:=Aa HP0.1.row 1;have hlt:=Ad HP0.1.row;simp at c1;clear hk0
 go_wp2_with fail
 refine qib ?_;rintro r w1 ⟨rfl,hk1⟩;have HP1:=zh (HP0.1.keep hk1);have HK1:=zh (HK0.1.trans hk1 qg);clear hk1 c1 hlt
 go_wp2_with ((with_reducible show wpList _ _ _ (Oper.mk none (.store 90 _ _) _ _ _ _::_) _ _);refine Oa 90 w1.heap.size 0 _ (Ca _ _) rfl (.agg #[.int .i64 kd,.string tx,.float .f64 nm,.int .i64 fr,.int .i64 te]) rfl qh jj ji ?_)
 intro w2 hs2;have x0:=Aa hs2.row 0;have x1:=Aa hs2.row 1;have x2:=Aa hs2.row 2;have x3:=Aa hs2.row 3;have x4:=Aa hs2.row 4;simp at x0 x1 x2 x3 x4;have hsz2:=HK1.1.size;have HTR2:=zh hs2.row;have hst2:Ac [] w1 w2:=(Ac.alloc [] w1 (By 0 ⟨#[]⟩ 0 0 0)).trans hs2.keeps qg;have HST2:=zh hst2;have HK2:=zh (HK1.1.trans hst2 qg);clear hs2 hst2;have HP2:=zh (HP1.1.keep HST2.1);have c0:=Aa HP2.1.row 0;have f0:=Ab HP2.1.row 0;have c1:=Aa HP2.1.row 1;have f1:=Ab HP2.1.row 1;have c2:=Aa HP2.1.row 2;have f2:=Ab HP2.1.row 2;have c3:=Aa HP2.1.row 3;have f3:=Ab HP2.1.row 3;have c4:=Aa HP2.1.row 4;have f4:=Ab HP2.1.row 4;have c5:=Aa HP2.1.row 5;have f5:=Ab HP2.1.row 5;simp at c0 c1 c2 c3 c4 c5;have hlt:=Ad HP2.1.row
 go_wp2_with fail
 go_ret
 have hrow:(w2.setCell ⟨p,1,none⟩ (.int .i64 te)).heap[p]? =some (LD s ⟨te,opn,ng⟩):=by
  have:=(Di (i:=1) (u:= .int .i64 te) HP2.1.row)
  simpa using this
 have hkp:Ac [p] w2 (w2.setCell ⟨p,1,none⟩ (.int .i64 te)):=(Ac.trans (Ac.refl [p] w2) (Ac.setCell [p] _ _ _ qg) qg);exact zjb
def TK(x:ByteArray)(o:Int):Option Int:=
 if same x (bs [40])||same x (bs [91])||same x (bs [123]) then (if o<40 then some (o+1) else none)
 else if same x (bs [41])||same x (bs [93])||same x (bs [125]) then (if -100<o then some (o -1) else none) else some o
def He(s:ByteArray)(st:Bq)(x:ByteArray):Option (Bool×Bq):=do
 let t ←Be s st.pos false
 if Ya t x then do
  let o ←TK x st.opn
  some (true,⟨t.to,o,st.ng⟩)
 else some (false,st)
theorem Bt{s:ByteArray}{p:Nat}{st st':Bq}{w:World}(h:PP s p st w){x:ByteArray}{b:Bool}(hx:He s st x=some (b,st')):Calls Tryz.prog 104 #[.pointer (some ⟨p,0,none⟩),.string x] w fun r w'=>r= .returned (.bool b)∧PP s p st' w'∧Ac [p] w w':=by
 unfold He at hx
 cases ht:Be s st.pos false with
 |none=>rw [ht] at hx;simp at hx
 | some t=>
  rw [ht] at hx;simp only [Option.bind_eq_bind,Option.bind_some] at hx
  cases hi:Ya t x
  ·rw [hi] at hx;simp only [Bool.false_eq_true,if_false,Option.some.injEq,Prod.mk.injEq] at hx;obtain ⟨rfl,rfl⟩:=hx;exact (SA h ht hi).mono fun r w' ⟨hr,hk⟩=>⟨hr,h.keep hk,hk.weaken qg⟩
  rw [hi] at hx;simp only [if_true] at hx
  cases ho:TK x st.opn with
  |none=>rw [ho] at hx;simp at hx
  | some o=>
   rw [ho] at hx;simp only [Option.bind_some,Option.some.injEq,Prod.mk.injEq] at hx;obtain ⟨rfl,rfl⟩:=hx;unfold TK at ho;have fin:∀{l:List UInt8},same x (bs l)=true→x=⟨l.toArray⟩:=fun h=>Cv.1 h
   by_cases e40:same x (bs [40])=true
   ·rw [e40] at ho;have hxl:=fin e40;subst hxl;simp at ho;obtain ⟨ho1,rfl⟩:=ho;exact SE h ht ho1 hi
   by_cases e91:same x (bs [91])=true
   ·rw [e91] at ho;have hxl:=fin e91;subst hxl;simp [e40] at ho;obtain ⟨ho1,rfl⟩:=ho;exact SC h ht ho1 hi
   by_cases e123:same x (bs [123])=true
   ·rw [e123] at ho;have hxl:=fin e123;subst hxl;simp [e40,e91] at ho;obtain ⟨ho1,rfl⟩:=ho;exact MZ h ht ho1 hi
   by_cases e41:same x (bs [41])=true
   ·rw [e41] at ho;have hxl:=fin e41;subst hxl;simp [e40,e91,e123] at ho;obtain ⟨ho1,rfl⟩:=ho;exact SD h ht ho1 hi
   by_cases e93:same x (bs [93])=true
   ·rw [e93] at ho;have hxl:=fin e93;subst hxl;simp [e40,e91,e123,e41] at ho;obtain ⟨ho1,rfl⟩:=ho;exact SB h ht ho1 hi
   by_cases e125:same x (bs [125])=true
   ·rw [e125] at ho;have hxl:=fin e125;subst hxl;simp [e40,e91,e123,e41,e93] at ho;obtain ⟨ho1,rfl⟩:=ho;exact MY h ht ho1 hi
   have n:∀{l:List UInt8},¬same x (bs l)=true→(x.toList==l)=false:=by
    intro l hl;have h2:=Ct x (bs l);rw [show (bs l).toList=l from by rw [bs,ByteArray.toList_mk]] at h2;rw [h2]
    simpa using hl
   simp [e40,e91,e123,e41,e93,e125] at ho;subst ho;exact FE h ht (n e40) (n e91) (n e123) (n e41) (n e93) (n e125) hi
def Ti(s:ByteArray)(st:Bq)(x:ByteArray):Option Bq:=match He s st x with
 |some (true,st')=>some st'
 |_=>none
theorem Uz{s:ByteArray}{p:Nat}{st st':Bq}{w:World}(h:PP s p st w){x:ByteArray}(hx:Ti s st x=some st'):Calls Tryz.prog 105 #[.pointer (some ⟨p,0,none⟩),.string x] w fun r w'=>r= .returned (.tuple #[])∧PP s p st' w'∧Ac [p] w w':=by
 have hx':He s st x=some (true,st'):=by
  unfold Ti at hx
  split at hx
  ·rename_i st2 h2;obtain rfl:=Option.some.inj hx;exact h2
  cases hx
 have ht:=Bt h hx';have H:=zh h;have HT:=zh ht;clear h hx hx' ht
 go_enter Tryz.func105,Tryz.ntmps105
 go_wp2_with fail
 refine MV ?_;rintro r w' ⟨rfl,hw'⟩;rw [hw'];clear hw'
 go_wp2_with fail
 refine HT.1.mono ?_;rintro r w1 ⟨rfl,hP,hK⟩;have HP:=zh hP;have HK:=zh hK;clear hP hK
 go_wp2_with fail
 go_end0
 exact ⟨rfl,HP.1,HK.1⟩
def Lz(s also:ByteArray):Nat→Bq→Option Bq
 |0,_=>none
 | f+1,st=>do
   let t ←Be s st.pos false
   if t.kind=1∨(same also (bs [])=false∧t.kind=9∧same t.text also=true) then Lz s also f ⟨t.to,st.opn,st.ng⟩ else some st
theorem Oe{s:ByteArray}{p:Nat}{st st':Bq}{w:World}(h:PP s p st w){also:ByteArray}{fu:Nat}(hx:Lz s also fu st=some st'):Calls Tryz.prog 35 #[.pointer (some ⟨p,0,none⟩),.string also] w fun r w'=>r= .returned (.tuple #[])∧PP s p st' w'∧Ac [p] w w':=by
 have HP:=zh h;have HX:=zh hx;clear h hx;have hae:=Ct also (bs []);rw [show (bs []).toList= [] from by rw [bs,ByteArray.toList_mk]] at hae;have HAE:=zh hae;clear hae
 go_enter Tryz.func35,Tryz.ntmps35
 go_wp2_with fail
 go_loopg [] fu (fun g wr=>∃st1,Lz s also g st1=some st'∧PP s p st1 wr∧Ac [p] w wr)
 case atStart=>exact ⟨st,HX.1,HP.1,Ac.refl _ _⟩
 obtain ⟨st1,hl,hP,hK⟩:=hrel
 skip
 cases gk with
 |zero=>simp [Lz] at hl
 | succ f=>
  rw [Lz] at hl
  cases ht:Be s st1.pos false with
  |none=>rw [ht] at hl;simp at hl
  | some t=>
   rw [ht] at hl;simp only [Option.bind_eq_bind,Option.bind_some] at hl;have H:=zh hP;have HK:=zh hK;have HT:=zh ht;obtain ⟨le1,le2,le3⟩:=Eo ht hP.le;clear hP hK ht;obtain ⟨kd,tx,nm,fr,te⟩:=t;obtain ⟨pos,opn,ng⟩:=st1;have hsq:=Ct tx also;simp only at hl le1 le2 le3
   by_cases h1:kd=1
   ·subst h1;rw [if_pos (.inl rfl)] at hl;have HF:=zh hl;clear hl hsq;have q1:=Aa H.1.row 1;simp at q1;have hlt0:=Ad H.1.row
    go_wp2_with fail
    refine MV ?_;rintro r w' ⟨rfl,hw'⟩;rw [hw'];clear hw'
    go_wp2_with fail
    refine RU ?_;rintro r w1 ⟨rfl,hk1⟩;clear q1 hlt0;have HP1:=zh (H.1.keep hk1);have HK1:=zh hk1;clear hk1
    go_wp2_with ((with_reducible show wpList _ _ _ (Oper.mk none (.store 90 _ _) _ _ _ _::_) _ _);refine Oa 90 w1.heap.size 0 _ (Ca _ _) rfl (.agg #[.int .i64 1,.string tx,.float .f64 nm,.int .i64 fr,.int .i64 te]) rfl qh jj ji ?_)
    exact zvd
   have n1:(kd==1)=false:=beq_false_of_ne h1;have n1':(kd !=1)=true:=by simp [h1]
   by_cases h2:same also (bs [])=false∧kd=9∧same tx also=true
   ·obtain ⟨ha,rfl,hb⟩:=h2;rw [if_pos (.inr ⟨ha,rfl,hb⟩)] at hl;rw [hb] at hsq;have hae:=HAE.1;rw [ha] at hae;have hae2:also.toList.isEmpty=false:=by simpa using hae
    have HF:=zh hl;clear hl hb ha h1;have q1:=Aa H.1.row 1;simp at q1;have hlt0:=Ad H.1.row
    go_wp2_with fail
    refine MV ?_;rintro r w' ⟨rfl,hw'⟩;rw [hw'];clear hw'
    go_wp2_with fail
    refine RU ?_;rintro r w1 ⟨rfl,hk1⟩;clear q1 hlt0;have HP1:=zh (H.1.keep hk1);have HK1:=zh hk1;clear hk1
    go_wp2_with ((with_reducible show wpList _ _ _ (Oper.mk none (.store 90 _ _) _ _ _ _::_) _ _);refine Oa 90 w1.heap.size 0 _ (Ca _ _) rfl (.agg #[.int .i64 9,.string tx,.float .f64 nm,.int .i64 fr,.int .i64 te]) rfl qh jj ji ?_)
    exact zvd
   rw [if_neg (by rintro (h|h);exact h1 h;exact h2 h)] at hl;obtain rfl:=Option.some.inj hl;clear hl HX
   cases ha:same also (bs [])
   ·have hae:=HAE.1;rw [ha] at hae;have hae2:also.toList.isEmpty=false:=by simpa using hae
    by_cases h9:kd=9
    ·subst h9
     have hb:same tx also=false:=by
      cases hb:same tx also
      ·rfl
      exact absurd ⟨ha,rfl,hb⟩ h2
     rw [hb] at hsq;clear hb ha h2 h1;have q1:=Aa H.1.row 1;simp at q1;have hlt0:=Ad H.1.row
     go_wp2_with fail
     refine MV ?_;rintro r w' ⟨rfl,hw'⟩;rw [hw'];clear hw'
     go_wp2_with fail
     refine RU ?_;rintro r w1 ⟨rfl,hk1⟩;clear q1 hlt0;have HP1:=zh (H.1.keep hk1);have HK1:=zh hk1;clear hk1
     go_wp2_with ((with_reducible show wpList _ _ _ (Oper.mk none (.store 90 _ _) _ _ _ _::_) _ _);refine Oa 90 w1.heap.size 0 _ (Ca _ _) rfl (.agg #[.int .i64 9,.string tx,.float .f64 nm,.int .i64 fr,.int .i64 te]) rfl qh jj ji ?_)
     exact zsd
    have n9:(kd==9)=false:=beq_false_of_ne h9;clear ha h2 h1 h9 hsq;exact qce
   have hae:=HAE.1;rw [ha] at hae;have hae2:also.toList.isEmpty=true:=by simpa using hae
   clear ha h2 h1 hsq;exact qce
end Go.Proofs.YtkfillfkbhbbjaaGreatDoor
