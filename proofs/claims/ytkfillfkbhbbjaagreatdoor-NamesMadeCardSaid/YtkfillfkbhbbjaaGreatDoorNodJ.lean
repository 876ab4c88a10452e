/- NamF, NodO, NodX, NodJ. -/
import Derived.Test.YtkfillfkbhbbjaaGreatDoorDWk
import Derived.Test.YtkfillfkbhbbjaaGreatDoorRegI
import Derived.Test.YtkfillfkbhbbjaaGreatDoorNamH
set_option maxRecDepth 100000
set_option maxHeartbeats 4000000
set_option linter.unusedSimpArgs false
set_option linter.unusedVariables false
namespace Go.Proofs.YtkfillfkbhbbjaaGreatDoor
open Go.RowKit
theorem XW{K:Ba}(hK:Dp K){T:Nat→Prop}{ua:Option Addr}{uc:Nat}{st:NS}{w:World}(h:CK K T ua uc st w)(kd:Int)(tx:ByteArray)(fm:Nat)(na:Option Addr)(nc re im:Nat)(kids:List Af){fn:Nat}(hfn:fn=flook K.g tx)(h0:fn=0):Calls Tryz.prog 76 #[.pointer (some ⟨K.c,0,none⟩),.agg #[.int .i64 kd,.string tx,.float .f64 fm,.slice na kids.length nc,.complex .f64 re im]] w fun r w'=>∃T' ua' uc',r= .returned (.tuple #[])∧CK K T' ua' uc' (Al st re im 28) w'∧Ak K T T' w w':=by
 have d5:((fn:Int)==0)=true:=by simp;omega
 have d6:(fn==0)=true:=by simp;omega
 have HC0:=zh h;have HS0:=zh (Ak.refl K T w);have HFN:=zh hfn;clear h hfn h0
 go_enter Tryz.func76,Tryz.ntmps76
 obtain ⟨l_c,l_mf,l_ms,l_mn⟩:=HC0.1.lt
 go_upto_region 1 with fail
 refine XF ?_;rintro w1 ⟨Kw1,cw1_B⟩;have ⟨n_c_B,n_B_c⟩:=Ai l_c;have ⟨n_mf_B,n_B_mf⟩:=Ai l_mf;have ⟨n_ms_B,n_B_ms⟩:=Ai l_ms;have ⟨n_mn_B,n_B_mn⟩:=Ai l_mn;have o_B:w.heap.size≤w.heap.size:=Nat.le_refl _;have off_B:Fu K T (w.heap.size):=Ao HC0.1 (Nat.le_refl _);have o0_B:K.w0.heap.size≤w.heap.size:=Nat.le_trans HC0.1.keep.size (Nat.le_refl _);have HCw1:=zh (HC0.1.kp0 Kw1);have HSw1:=zh (HS0.1.loc Kw1 qg);have Rw1_B:=zh cw1_B;clear Kw1 cw1_B l_c l_mf l_ms l_mn HC0 HS0;obtain ⟨l_c,xc⟩:=Cp HCw1.1.row;obtain ⟨-,l_mf,l_ms,l_mn⟩:=HCw1.1.lt;obtain ⟨l_B,xB⟩:=Bv Rw1_B.1;have hlk:=HCw1.1.flook' tx (v:=(fn:Int)) (by rw [HFN.1])
 go_cut [4] (fun s4 W=>s4= .int .i64 fn∧Ac [] w1 W)
 case first=>
  exact RV
 obtain ⟨rfl,hk⟩:=hcut;generalize wc=w2 at*
 have Rw2_B:=zh (hk.at Rw1_B.1 qg);have HCw2:=zh (HCw1.1.kp0 hk);have HSw2:=zh (HSw1.1.loc hk qg);clear hk Rw1_B HCw1 HSw1 l_c xc l_B xB l_mf l_ms l_mn;obtain ⟨l_c,l_mf,l_ms,l_mn⟩:=HCw2.1.lt;obtain ⟨l_B,xB⟩:=Bv Rw2_B.1
 go_wp2_with fail
 clear l_c l_B xB l_mf l_ms l_mn;refine (Hv hK HCw2.1 re im 28).mono ?_;exact zzd
theorem XV{K:Ba}(hK:Dp K){T:Nat→Prop}{ua:Option Addr}{uc:Nat}{st:NS}{w:World}(h:CK K T ua uc st w)(kd:Int)(tx:ByteArray)(fm:Nat)(na:Option Addr)(nc re im:Nat)(kids:List Af){fn i:Nat}(hfn:fn=flook K.g tx)(hfi:fn=i+1)(hi:i<K.g.funcs.length)(hm:K.g.funcs[i].params.length<kids.length):Calls Tryz.prog 76 #[.pointer (some ⟨K.c,0,none⟩),.agg #[.int .i64 kd,.string tx,.float .f64 fm,.slice na kids.length nc,.complex .f64 re im]] w fun r w'=>∃T' ua' uc',r= .returned (.tuple #[])∧CK K T' ua' uc' (Al st re im 31) w'∧Ak K T T' w w':=by
 have d1:(0:Int)<(fn:Int):=by omega
 have d0:decide (0<fn)=true:=by simp;omega
 have d2:(fn:Int) -1=(i:Int):=by omega
 have d3:(i:Int)<(K.g.funcs.length:Int):=by omega
 have d4:(fn:Int)≤1000000:=by have:=hK.small;omega
 have d5:((fn:Int)==0)=false:=by simp;omega
 have d6:(fn==0)=false:=by simp;omega
 have d7:¬fn=0:=by omega
 have d8:(K.g.funcs[i].params.length:Int)<(kids.length:Int):=by omega
 have HC0:=zh h;have HS0:=zh (Ak.refl K T w);have HFN:=zh hfn;have HFI:=zh hfi;clear h hfn hfi
 go_enter Tryz.func76,Tryz.ntmps76
 obtain ⟨l_c,l_mf,l_ms,l_mn⟩:=HC0.1.lt
 go_upto_region 1 with fail
 refine XF ?_;rintro w1 ⟨Kw1,cw1_B⟩;have ⟨n_c_B,n_B_c⟩:=Ai l_c;have ⟨n_mf_B,n_B_mf⟩:=Ai l_mf;have ⟨n_ms_B,n_B_ms⟩:=Ai l_ms;have ⟨n_mn_B,n_B_mn⟩:=Ai l_mn;have o_B:w.heap.size≤w.heap.size:=Nat.le_refl _;have off_B:Fu K T (w.heap.size):=Ao HC0.1 (Nat.le_refl _);have o0_B:K.w0.heap.size≤w.heap.size:=Nat.le_trans HC0.1.keep.size (Nat.le_refl _);have HCw1:=zh (HC0.1.kp0 Kw1);have HSw1:=zh (HS0.1.loc Kw1 qg);have Rw1_B:=zh cw1_B;clear Kw1 cw1_B l_c l_mf l_ms l_mn HC0 HS0;obtain ⟨l_c,xc_0,xc_1,xc_2,xc_3,xc_4,xc_5,xc_6,xc_7,xc_8,xc_9,xc_10,yc_0,yc_1,yc_2,yc_3,yc_4,yc_5,yc_6,yc_7,yc_8,yc_9,yc_10⟩:=Cp HCw1.1.row;obtain ⟨-,l_mf,l_ms,l_mn⟩:=HCw1.1.lt;obtain ⟨l_B,xB⟩:=Bv Rw1_B.1;have hlk:=HCw1.1.flook' tx (v:=(fn:Int)) (by rw [HFN.1])
 go_cut [4] (fun s4 W=>s4= .int .i64 fn∧Ac [] w1 W)
 case first=>
  exact RV
 obtain ⟨rfl,hk⟩:=hcut;generalize wc=w2 at*
 have Rw2_B:=zh (hk.at Rw1_B.1 qg);have HCw2:=zh (HCw1.1.kp0 hk);have HSw2:=zh (HSw1.1.loc hk qg);clear hk Rw1_B HCw1 HSw1 l_c xc_0 xc_1 xc_2 xc_3 xc_4 xc_5 xc_6 xc_7 xc_8 xc_9 xc_10 yc_0 yc_1 yc_2 yc_3 yc_4 yc_5 yc_6 yc_7 yc_8 yc_9 yc_10 l_B xB l_mf l_ms l_mn;obtain ⟨l_c,xc_0,xc_1,xc_2,xc_3,xc_4,xc_5,xc_6,xc_7,xc_8,xc_9,xc_10,yc_0,yc_1,yc_2,yc_3,yc_4,yc_5,yc_6,yc_7,yc_8,yc_9,yc_10⟩:=Cp HCw2.1.row;obtain ⟨-,l_mf,l_ms,l_mn⟩:=HCw2.1.lt;obtain ⟨l_B,xB⟩:=Bv Rw2_B.1;obtain ⟨g,o,pa,pc,b0,b1,b2,b3,b4,hfa,-,hcp,-,-,-,-,-,-,hsp,-⟩:=CK.func hK HCw2.1 hi;have HSP:=zh hsp;have HFA:=zh hfa;clear hsp;rw [hfa] at xc_1;clear hfa
 go_wp2_with fail
 clear l_c xc_0 xc_1 xc_2 xc_3 xc_4 xc_5 xc_6 xc_7 xc_8 xc_9 xc_10 yc_0 yc_1 yc_2 yc_3 yc_4 yc_5 yc_6 yc_7 yc_8 yc_9 yc_10 l_B xB l_mf l_ms l_mn;refine (Hv hK HCw2.1 re im 31).mono ?_;exact zzd
theorem Sz{s:ByteArray}{a b:Nat}(h:Bz s=(a,b))(w:World):Calls Tryz.prog 117 #[.string s] w fun r w'=>r= .returned (.tuple #[.int .i64 a,.int .i64 b])∧w'=w:=by
 have:=GL s w;rw [h] at this;exact this
theorem VO{K:Ba}(hK:Dp K){T:Nat→Prop}{ua:Option Addr}{uc:Nat}{st:NS}{w:World}(h:CK K T ua uc st w)(kd:Int)(tx:ByteArray)(fm:Nat)(na:Option Addr)(nc re im:Nat)(kids:List Af){c1 c2:Nat}(hcn:Bz tx=(c1,c2))(hlo:kids.length<c1):Calls Tryz.prog 77 #[.pointer (some ⟨K.c,0,none⟩),.agg #[.int .i64 kd,.string tx,.float .f64 fm,.slice na kids.length nc,.complex .f64 re im]] w fun r w'=>∃T' ua' uc',r= .returned (.tuple #[])∧CK K T' ua' uc' (Al st re im 31) w'∧Ak K T T' w w':=by
 have d1:((kids.length:Int)<(c1:Int)):=by omega
 have d2:decide (kids.length<c1)=true:=by simp [hlo]
 exact qwd
theorem VN{K:Ba}(hK:Dp K){T:Nat→Prop}{ua:Option Addr}{uc:Nat}{st:NS}{w:World}(h:CK K T ua uc st w)(kd:Int)(tx:ByteArray)(fm:Nat)(na:Option Addr)(nc re im:Nat)(kids:List Af){c1 c2:Nat}(hcn:Bz tx=(c1,c2))(hn:¬kids.length<c1)(hlo:c2<kids.length):Calls Tryz.prog 77 #[.pointer (some ⟨K.c,0,none⟩),.agg #[.int .i64 kd,.string tx,.float .f64 fm,.slice na kids.length nc,.complex .f64 re im]] w fun r w'=>∃T' ua' uc',r= .returned (.tuple #[])∧CK K T' ua' uc' (Al st re im 31) w'∧Ak K T T' w w':=by
 have d1:¬kids.length<c1:=by omega
 have d2:decide (kids.length<c1)=false:=by simp [d1]
 have d3:((c2:Int)<(kids.length:Int)):=by omega
 have d4:decide (c2<kids.length)=true:=by simp [hlo]
 exact qwd
theorem OK{K:Ba}(hK:Dp K){T:Nat→Prop}{ua:Option Addr}{uc:Nat}{st:NS}{w:World}(h:CK K T ua uc st w)(kd:Int)(tx:ByteArray)(fm:Nat)(na:Option Addr)(nc re im:Nat)(kids:List Af){st':NS}(hkd:kd=19)(hc:∀w,CK K T ua uc st w→Calls Tryz.prog 76 #[.pointer (some ⟨K.c,0,none⟩),.agg #[.int .i64 kd,.string tx,.float .f64 fm,.slice na kids.length nc,.complex .f64 re im]] w fun r w'=>∃T' ua' uc',r= .returned (.tuple #[])∧CK K T' ua' uc' (st') w'∧Ak K T T' w w'):Calls Tryz.prog 43 #[.pointer (some ⟨K.c,0,none⟩),.agg #[.int .i64 kd,.string tx,.float .f64 fm,.slice na kids.length nc,.complex .f64 re im]] w fun r w'=>∃T' ua' uc',r= .returned (.tuple #[])∧CK K T' ua' uc' (st') w'∧Ak K T T' w w':=by
 have e4:(kd==4)=false:=by simp [hkd]
 have e5:(kd==5)=false:=by simp [hkd]
 have e11:(kd==11)=false:=by simp [hkd]
 have e41:(kd==41)=false:=by simp [hkd]
 have e35:(kd==35)=false:=by simp [hkd]
 have e20:(kd==20)=false:=by simp [hkd]
 have e19:(kd==19)=true:=by simp [hkd]
 exact jyd
theorem OL{K:Ba}(hK:Dp K){T:Nat→Prop}{ua:Option Addr}{uc:Nat}{st:NS}{w:World}(h:CK K T ua uc st w)(kd:Int)(tx:ByteArray)(fm:Nat)(na:Option Addr)(nc re im:Nat)(kids:List Af){st':NS}(hkd:kd=20)(hc:∀w,CK K T ua uc st w→Calls Tryz.prog 77 #[.pointer (some ⟨K.c,0,none⟩),.agg #[.int .i64 kd,.string tx,.float .f64 fm,.slice na kids.length nc,.complex .f64 re im]] w fun r w'=>∃T' ua' uc',r= .returned (.tuple #[])∧CK K T' ua' uc' (st') w'∧Ak K T T' w w'):Calls Tryz.prog 43 #[.pointer (some ⟨K.c,0,none⟩),.agg #[.int .i64 kd,.string tx,.float .f64 fm,.slice na kids.length nc,.complex .f64 re im]] w fun r w'=>∃T' ua' uc',r= .returned (.tuple #[])∧CK K T' ua' uc' (st') w'∧Ak K T T' w w':=by
 have e4:(kd==4)=false:=by simp [hkd]
 have e5:(kd==5)=false:=by simp [hkd]
 have e11:(kd==11)=false:=by simp [hkd]
 have e41:(kd==41)=false:=by simp [hkd]
 have e35:(kd==35)=false:=by simp [hkd]
 have e19:(kd==19)=false:=by simp [hkd]
 have e20:(kd==20)=true:=by simp [hkd]
 exact jyd
theorem Zj{s:ByteArray}:∀{l:List Az} {i k:Nat},Cb s l i=k+1→k<i+l.length
 | [],_,_,h=>by cases h
 | f::l,i,k,h=>by
   unfold Cb at h
   split at h
   ·simp at h;simp;omega
   have:=Zj h;simp;omega
theorem DT{g:Ah}{s:ByteArray}{i:Nat}(h:flook g s=i+1):i<g.funcs.length:=by
 have:=Zj h;omega
end Go.Proofs.YtkfillfkbhbbjaaGreatDoor
