/- TokA. -/
import Derived.Test.YtkfillfkbhbbjaaGreatDoorSpec
import Derived.Test.YtkfillfkbhbbjaaGreatDoorKit
import Derived.Laws.DeepStrings4
import Derived.Deep.LoopGhost
import Derived.Deep.DeepCutAuto
import Derived.Deep.QuietTactic
import Derived.Deep.RegionLaw
import Derived.Deep.RegionWith
set_option maxRecDepth 100000
set_option maxHeartbeats 4000000
set_option linter.unusedSimpArgs false
set_option linter.unusedVariables false
namespace Go.Proofs.YtkfillfkbhbbjaaGreatDoor
open Go.RowKit
def Wq(p:Prop):Prop:=p
theorem Wq.out{p:Prop}(h:Wq p):p:=h
theorem Jo:Tryz.f4.results= #[.tmp 2]∧Tryz.f9.results= #[.cell 2 25,.tmp 3,.tmp 4]∧Tryz.f10.results= #[.cell 2 33]∧Tryz.f11.results= #[.tmp 0]∧Tryz.f13.results= #[.tmp 2]∧Tryz.f14.results= #[.cell 2 33]∧Tryz.f15.results= #[.tmp 4]∧Tryz.f17.results= #[.tmp 4]∧Tryz.f21.results= #[.cell 2 33,.tmp 3,.tmp 4]∧Tryz.f24.results= #[]∧Tryz.f25.results= #[]∧Tryz.f26.results= #[]∧Tryz.f27.results= #[.cell 2 25]∧Tryz.f28.results= #[.cell 2 72,.tmp 3,.tmp 4]∧Tryz.f29.results= #[.tmp 4]∧Tryz.f30.results= #[.cell 4 50]∧Tryz.f31.results= #[.cell 4 50]∧Tryz.f32.results= #[.cell 6 50]∧Tryz.f33.results= #[.cell 2 50]∧Tryz.f35.results= #[]∧Tryz.f36.results= #[.cell 4 90]∧Tryz.f37.results= #[]∧Tryz.f42.results= #[]∧Tryz.f43.results= #[]∧Tryz.f44.results= #[.tmp 2]∧Tryz.f45.results= #[.cell 4 101]∧Tryz.f47.results= #[]∧Tryz.f48.results= #[]∧Tryz.f49.results= #[.tmp 2]∧Tryz.f50.results= #[.tmp 4]∧Tryz.f51.results= #[.tmp 4]∧Tryz.f53.results= #[.tmp 6]∧Tryz.f54.results= #[.cell 4 50]∧Tryz.f55.results= #[.tmp 2]∧Tryz.f56.results= #[.cell 2 50]∧Tryz.f57.results= #[.cell 4 50]∧Tryz.f58.results= #[.cell 4 50]∧Tryz.f59.results= #[.cell 2 50]∧Tryz.f60.results= #[.tmp 2]∧Tryz.f61.results= #[.cell 4 90,.tmp 5]∧Tryz.f62.results= #[.cell 6 90,.tmp 7]∧Tryz.f66.results= #[.cell 2 52,.tmp 3]∧Tryz.f74.results= #[]∧Tryz.f75.results= #[.cell 4 101]∧Tryz.f76.results= #[]∧Tryz.f77.results= #[]∧Tryz.f78.results= #[]∧Tryz.f80.results= #[.tmp 4]∧Tryz.f81.results= #[]∧Tryz.f82.results= #[.tmp 4]∧Tryz.f83.results= #[]∧Tryz.f84.results= #[.tmp 0]∧Tryz.f85.results= #[]∧Tryz.f86.results= #[]∧Tryz.f87.results= #[.tmp 4]∧Tryz.f89.results= #[.cell 4 50]∧Tryz.f90.results= #[.cell 4 50]∧Tryz.f103.results= #[.cell 4 90,.tmp 5]∧Tryz.f107.results= #[.cell 2 50]∧Tryz.f109.results= #[.cell 2 50]∧Tryz.f118.results= #[]∧Tryz.f119.results= #[.tmp 2]∧Tryz.f120.results= #[]∧Tryz.f127.results= #[.cell 2 50]∧Tryz.f130.results= #[.cell 2 50]∧Tryz.f132.results= #[.tmp 4,.tmp 5,.tmp 6]∧Tryz.f155.results= #[.tmp 4,.tmp 5,.tmp 6]∧Tryz.f163.results= #[]∧Tryz.f165.results= #[.cell 2 50]∧Tryz.f170.results= #[.cell 2 50]∧Tryz.f185.results= #[.tmp 2,.tmp 3,.tmp 4]∧Tryz.f189.results= #[.tmp 4]∧Tryz.f193.results= #[.cell 2 50]∧Tryz.f211.results= #[.tmp 2,.tmp 3,.tmp 4]∧Tryz.f212.results= #[.tmp 2,.tmp 3,.tmp 4,.tmp 5,.tmp 6,.tmp 7,.tmp 8]∧Tryz.f224.results= #[.tmp 4]∧Tryz.f226.results= #[.cell 2 50]∧Tryz.f256.results= #[.cell 2 50]∧Tryz.f266.results= #[.cell 2 50]∧Tryz.f270.results= #[.cell 2 50]∧Tryz.f273.results= #[.cell 2 50]∧Tryz.f274.results= #[.tmp 2]∧Tryz.f281.results= #[.cell 2 50]∧Tryz.f286.results= #[.cell 2 50]∧Tryz.f288.results= #[.cell 2 50]∧Tryz.f290.results= #[.cell 2 50]∧Tryz.f292.results= #[.cell 2 50]∧Tryz.f294.results= #[.cell 2 50]∧Tryz.f296.results= #[.cell 2 50]:=⟨Tryz.results4,Tryz.results9,Tryz.results10,Tryz.results11,Tryz.results13,Tryz.results14,Tryz.results15,Tryz.results17,Tryz.results21,Tryz.results24,Tryz.results25,Tryz.results26,Tryz.results27,Tryz.results28,Tryz.results29,Tryz.results30,Tryz.results31,Tryz.results32,Tryz.results33,Tryz.results35,Tryz.results36,Tryz.results37,Tryz.results42,Tryz.results43,Tryz.results44,Tryz.results45,Tryz.results47,Tryz.results48,Tryz.results49,Tryz.results50,Tryz.results51,Tryz.results53,Tryz.results54,Tryz.results55,Tryz.results56,Tryz.results57,Tryz.results58,Tryz.results59,Tryz.results60,Tryz.results61,Tryz.results62,Tryz.results66,Tryz.results74,Tryz.results75,Tryz.results76,Tryz.results77,Tryz.results78,Tryz.results80,Tryz.results81,Tryz.results82,Tryz.results83,Tryz.results84,Tryz.results85,Tryz.results86,Tryz.results87,Tryz.results89,Tryz.results90,Tryz.results103,Tryz.results107,Tryz.results109,Tryz.results118,Tryz.results119,Tryz.results120,Tryz.results127,Tryz.results130,Tryz.results132,Tryz.results155,Tryz.results163,Tryz.results165,Tryz.results170,Tryz.results185,Tryz.results189,Tryz.results193,Tryz.results211,Tryz.results212,Tryz.results224,Tryz.results226,Tryz.results256,Tryz.results266,Tryz.results270,Tryz.results273,Tryz.results274,Tryz.results281,Tryz.results286,Tryz.results288,Tryz.results290,Tryz.results292,Tryz.results294,Tryz.results296⟩
theorem ja{a0:Prop}(x0:a0){p:Prop}(h:a0→p:=by intro x0;simp only [hS,hA,hD,hM,reduceIte,Option.map_some,Obj.put,x0]<;>rfl):p:=h x0
theorem zb{p:Prop}(h:p:=by simp only [hS,hA,hD,hM,reduceIte,Option.map_some,Obj.put]<;>rfl):p:=h
theorem jb{p:Prop}(h:p:=by simp only [hS,hA,hD,hM,World.size_setCell,World.size_drew,reduceIte,Option.map_some,Obj.put]<;>rfl):p:=h
theorem qb{a0:Prop}(x0:a0){a1 b1:Nat}(x1:a1<b1){p:Prop}(h:a0→a1<b1→p:=by intro x0 x1;simp only [hS,hA,hD,hM,World.size_setCell,World.size_drew,reduceIte,Option.map_some,Obj.put,x0,Nat.ne_of_lt x1,Nat.ne_of_gt x1]<;>rfl):p:=h x0 x1
theorem zc{a0:Prop}(x0:a0){a1 b1:Nat}(x1:a1<b1){p:Prop}(h:a0→a1<b1→p:=by intro x0 x1;simp only [hS,hA,hD,hM,reduceIte,Option.map_some,Obj.put,x0,Nat.ne_of_lt x1,Nat.ne_of_gt x1]<;>rfl):p:=h x0 x1
theorem jc{a0:Prop}(x0:a0){a1:Prop}(x1:a1){a2:Prop}(x2:a2){a3:Prop}(x3:a3){a4 b4:Nat}(x4:a4<b4){a5 b5:Nat}(x5:a5<b5){p:Prop}(h:a0→a1→a2→a3→a4<b4→a5<b5→p:=by intro x0 x1 x2 x3 x4 x5;simp only [hS,hA,hD,hM,reduceIte,Option.map_some,Obj.put,x0,x1,x2,x3,Nat.ne_of_lt x4,Nat.ne_of_gt x4,Nat.ne_of_lt x5,Nat.ne_of_gt x5]<;>rfl):p:=h x0 x1 x2 x3 x4 x5
theorem zd{a0:Prop}(x0:a0){a1 b1:Nat}(x1:a1<b1){p:Prop}(h:a0→a1<b1→p:=by intro x0 x1;simp only [hS,hA,hD,hM,World.size_alloc,World.size_setCell,World.size_drew,size_mset,Nat.add_right_cancel_iff,Nat.left_eq_add,Nat.add_eq_left,Nat.reduceEqDiff,Nat.add_assoc,Nat.reduceAdd,Nat.one_ne_zero,Nat.zero_ne_one,reduceIte,Option.map_some,Obj.put,x0,Nat.ne_of_lt x1,Nat.ne_of_gt x1,Nat.ne_of_lt (Nat.lt_add_right 1 x1),Nat.ne_of_gt (Nat.lt_add_right 1 x1)]<;>rfl):p:=h x0 x1
theorem jd{p:Prop}(h:p:=by simp only [hS,hA,hD,hM,World.size_alloc,World.size_setCell,World.size_drew,size_mset,Nat.add_right_cancel_iff,Nat.left_eq_add,Nat.add_eq_left,Nat.reduceEqDiff,Nat.add_assoc,Nat.reduceAdd,Nat.one_ne_zero,Nat.zero_ne_one,reduceIte,Option.map_some,Obj.put]<;>rfl):p:=h
theorem qd{p:Prop}(h:p:=by simp only [Nn,Pc,LN,World.size_alloc,World.size_setCell,World.size_drew,reduceIte,Option.map_some,Obj.put]<;>rfl):p:=h
theorem ze{a0:Prop}(x0:a0){p:Prop}(h:a0→p:=by intro x0;simp only [hS,hA,hD,hM,World.size_alloc,World.size_setCell,World.size_drew,size_mset,Nat.add_right_cancel_iff,Nat.left_eq_add,Nat.add_eq_left,Nat.reduceEqDiff,Nat.add_assoc,Nat.reduceAdd,Nat.one_ne_zero,Nat.zero_ne_one,reduceIte,Option.map_some,Obj.put,x0]<;>rfl):p:=h x0
theorem je{a0:Prop}(x0:a0){a1 b1:Nat}(x1:a1<b1){p:Prop}(h:a0→a1<b1→p:=by intro x0 x1;simp only [hS,hA,hD,hM,World.size_alloc,World.size_setCell,World.size_drew,size_mset,Nat.add_right_cancel_iff,Nat.left_eq_add,Nat.add_eq_left,Nat.reduceEqDiff,Nat.add_assoc,Nat.reduceAdd,Nat.one_ne_zero,Nat.zero_ne_one,reduceIte,Option.map_some,Obj.put,x0,Nat.ne_of_lt x1,Nat.ne_of_gt x1]<;>rfl):p:=h x0 x1
theorem qe{p:Prop}(h:p:=by first|(simp only [World.size_alloc,World.size_setCell,World.size_drew,Nat.left_eq_add,Nat.add_eq_left,Nat.add_right_cancel_iff,Nat.reduceEqDiff,Nat.add_assoc,Nat.reduceAdd,Nat.one_ne_zero,Nat.zero_ne_one,hS,hA,hD,hM,reduceIte,Option.map_some,Obj.put]<;>rfl)|rfl):p:=h
theorem jf{a0:Prop}(x0:a0){p:Prop}(h:a0→p:=by intro x0;first|(simp only [World.size_alloc,World.size_setCell,World.size_drew,Nat.left_eq_add,Nat.add_eq_left,Nat.add_right_cancel_iff,Nat.reduceEqDiff,Nat.add_assoc,Nat.reduceAdd,Nat.one_ne_zero,Nat.zero_ne_one,hS,hA,hD,hM,reduceIte,Option.map_some,Obj.put,x0]<;>rfl)|rfl):p:=h x0
theorem qf{a0:Prop}(x0:a0){a1:Prop}(x1:a1){a2:Prop}(x2:a2){p:Prop}(h:a0→a1→a2→p:=by intro x0 x1 x2;first|(simp only [World.size_alloc,World.size_setCell,World.size_drew,Nat.left_eq_add,Nat.add_eq_left,Nat.add_right_cancel_iff,Nat.reduceEqDiff,Nat.add_assoc,Nat.reduceAdd,Nat.one_ne_zero,Nat.zero_ne_one,hS,hA,hD,hM,reduceIte,Option.map_some,Obj.put,x0,x1,x2]<;>rfl)|rfl):p:=h x0 x1 x2
theorem zg{a0:Prop}(x0:a0){a1:Prop}(x1:a1){p:Prop}(h:a0→a1→p:=by intro x0 x1;first|(simp only [World.size_alloc,World.size_setCell,World.size_drew,Nat.left_eq_add,Nat.add_eq_left,Nat.add_right_cancel_iff,Nat.reduceEqDiff,Nat.add_assoc,Nat.reduceAdd,Nat.one_ne_zero,Nat.zero_ne_one,hS,hA,hD,hM,reduceIte,Option.map_some,Obj.put,x0,x1]<;>rfl)|rfl):p:=h x0 x1
theorem jg{p:Prop}(h:p:=by with_reducible repeat (first|exact k0 _ _|refine kA ?_ _|refine kD ?_|refine kS ?_ (by simp)|refine kM ?_ (by simp))):p:=h
theorem qg{p:Prop}(h:p:=by simp):p:=h
theorem jh{p:Prop}(h:p:=by omega):p:=h
theorem qh{p:Prop}(h:p:=by kernel_rfl):p:=h
theorem zi{p:Prop}(h:p:=by decide):p:=h
theorem ji{p:Prop}(h:p:=by simp [Value.cells,Value.oneCell']):p:=h
theorem qi{p:Prop}(h:p:=by simp;omega):p:=h
theorem zj{p:Prop}(h:p:=by have:=HKE.1;have:=HGE.1;simp;omega):p:=h
theorem jj{p:Prop}(h:p:=by simp [Value.cells]):p:=h
theorem qj{p:Prop}(h:p:=by have:=HKE.1;have:=HGE.1;have:=HRG.1;simp;omega):p:=h
theorem zk{p:Prop}(h:p:=by simp [results,Jo,go_sem,x0,x1,x2,x3,x4]):p:=h
theorem jk{p:Prop}(h:p:=by have:=HKE.1;have:=HGE.1;have:=HB1.1;have:=HB2.1;have:=HB3.1;have:=HB4.1;simp;omega):p:=h
theorem qk{p:Prop}(h:p:=by simp [n_R_p]):p:=h
theorem zl{p:Prop}(h:p:=by simp [results,Jo,go_sem,q0,q1,q2,q3,q4]):p:=h
theorem jl{p:Prop}(h:p:=by simp [HRW.1]):p:=h
theorem ql{p:Prop}(h:p:=by simp [n_T_p]):p:=h
theorem zm{p:Prop}(h:p:=by have:=Ca (w.alloc (By 0 ⟨#[]⟩ 0 0 0)) (By 0 ⟨#[]⟩ 0 0 0);simpa using this):p:=h
theorem jm{p:Prop}(h:p:=by rw [Aa hr];rfl):p:=h
theorem qm{p:Prop}(h:p:=by have:=Ca w2 (By 0 ⟨#[]⟩ 0 0 0);rw [hz2] at this;exact this):p:=h
theorem zn{p:Prop}(h:p:=by have:=Di (i:=0) (u:= .int .i64 5) (Di (i:=1) (u:= .string (s.extract a k)) HR4.1);simpa using this):p:=h
theorem jn{p:Prop}(h:p:=by simp only [World.size_alloc,World.size_setCell,World.size_drew,Nat.left_eq_add,Nat.add_eq_left,Nat.one_ne_zero,hS,hA,hD,hM,reduceIte,Option.map_some,Obj.put]<;>rfl):p:=h
theorem qn{p:Prop}(h:p:=by have:=HRG.1;have:=HGE.1;simp;omega):p:=h
theorem zo{p:Prop}(h:p:=by intro u hu;simp only [List.mem_cons,List.not_mem_nil,or_false] at hu;rcases hu with rfl|rfl|rfl|rfl|rfl|rfl|rfl|rfl<;>rfl):p:=h
theorem jo{p:Prop}(h:p:=by simp [Rows.namesMadeRow]):p:=h
theorem qo{p:Prop}(h:p:=by simp only [hS,hA,hD,hM,World.size_setCell,hnk,reduceIte,Option.map_some,Obj.put,HMK.1.row]<;>rfl):p:=h
theorem zp{p:Prop}(h:p:=by simp [o_R]):p:=h
theorem jp{p:Prop}(h:p:=by simp only [hS,hA,hD,hM,World.size_setCell,Ne.symm hnk,reduceIte,Option.map_some,Obj.put]<;>rfl):p:=h
theorem qp{p:Prop}(h:p:=by have:=HGE.1;simp;omega):p:=h
theorem zq{p:Prop}(h:p:=by intro _ _ h;cases h):p:=h
theorem jq{p:Prop}(h:p:=by simp [results,Jo,go_sem]):p:=h
theorem qq{p:Prop}(h:p:=by simp [n_B_p]):p:=h
theorem zr{p:Prop}(h:p:=by simp;exact HP2.1.p):p:=h
theorem jr{p:Prop}(h:p:=by simp [n_p_R]):p:=h
theorem qr{p:Prop}(h:p:=by first|exact (Md (Hs (Ac.refl [] w) _)).trans hk1 qg|exact (Md (Hs (Hs (Ac.refl [] w) _) _)).trans hk1 qg):p:=h
theorem js{p:Prop}(h:p:=by have:=HeR.1;simp;omega):p:=h
theorem zt{p:Prop}(h:p:=by simp [g_R]):p:=h
theorem jt{p:Prop}(h:p:=by have:=h.lt;simp;omega):p:=h
theorem qt{p:Prop}(h:p:=by first|rfl|simp [Region.wanted,yielded]):p:=h
theorem zu{p:Prop}(h:p:=by first|rfl|simp [hz2]):p:=h
theorem ju{p:Prop}(h:p:=by first|rfl|(simp only [hS,hA,hD,hM,World.size_setCell,World.size_drew,reduceIte,Option.map_some,Obj.put]<;>rfl)):p:=h
theorem qu{p:Prop}(h:p:=by first|exact Md (Hs (Ac.refl [] w) _)|exact Md (Hs (Hs (Ac.refl [] w) _) _)):p:=h
theorem zv{p:Prop}(h:p:=by have:=HeR.1;have:=hk.size;omega):p:=h
theorem jv{p:Prop}(h:p:=by intro x hx;simp [Op.operands] at hx;subst hx;exact hv):p:=h
theorem qv{p:Prop}(h:p:=by first|assumption|exact HPe4.1.le):p:=h
theorem zw{p:Prop}(h:p:=by simp [maxLen];omega):p:=h
theorem jw{p:Prop}(h:p:=by exact kD (k0 [] u2)):p:=h
theorem qw{p:Prop}(h:p:=by simp [ns_n_R]):p:=h
theorem jx{p:Prop}(h:p:=by rw [hu];simp only [List.length_nil];omega):p:=h
theorem qx{p:Prop}(h:p:=by simp [n_B_R]):p:=h
theorem jy{p:Prop}(h:p:=by simp [n_T_R]):p:=h
theorem qy{p:Prop}(h:p:=by simp [n_F_p]):p:=h
theorem zz{p:Prop}(h:p:=by simp [n_A_p]):p:=h
theorem jz{p:Prop}(h:p:=by simp [n_C_p]):p:=h
theorem qz{p:Prop}(h:p:=by rw [h.size];omega):p:=h
theorem YL{p:Prop}(h:p:=by simp [ns_n_p]):p:=h
theorem ZZ{p:Prop}(h:p:=by simp only;omega):p:=h
theorem qab{p:Prop}(h:p:=by simp only [hS,hA,hD,hM,reduceIte,Option.map_some,HEB.1]<;>rfl):p:=h
theorem zbb{p:Prop}(h:p:=by have:=h.size;omega):p:=h
theorem jbb{p:Prop}(h:p:=by simp [o_kb]):p:=h
theorem qbb{p:Prop}(h:p:=by simp [(off_R).2.2.2]):p:=h
theorem zcb{p:Prop}(h:p:=by have:=HeR.1;omega):p:=h
theorem jcb{p:Prop}(h:p:=by simp [results,Jo]):p:=h
theorem YV{p:Prop}(h:p:=by simp [g_p]):p:=h
theorem zdb{p:Prop}(h:p:=by simp only [Me];rcases h5 with h|h|h|h<;>simp [h]):p:=h
theorem ZY{p:Prop}(h:p:=by simp [ns_l_p]):p:=h
theorem qdb{p:Prop}(h:p:=by have:=H_lt.1;simp;omega):p:=h
theorem YI{p:Prop}(h:p:=by simp [h0]):p:=h
theorem XJ{p:Prop}(h:p:=by simp []):p:=h
theorem Qd{p:Prop}(h:p:=by exact ⟨rfl,rfl⟩):p:=h
theorem zfb{p:Prop}(h:p:=by exact ⟨by rw [←HA'.1];rfl,rfl⟩):p:=h
theorem jfb{p:Prop}(h:p:=by exact bodyPost_ret (v:= .tuple #[.float .f64 (flt 1),.int .i64 1,.nilIface]) jq rfl ⟨rfl,rfl⟩):p:=h
theorem qfb{p:Prop}(h:p:=by exact ⟨a,s.size+1,Nat.le_refl _,hale,rfl,HE,HR3.1,HQ3.1,HK3.1⟩):p:=h
theorem zgb{p:Prop}(h:p:=by exact bodyPost_ret (v:= .tuple #[.agg #[.int .i64 6,.string (s.extract a k),.float .f64 0,.int .i64 a,.int .i64 k],.int .i64 0]) zk rfl ⟨by rw [HKD.1],hk9⟩):p:=h
theorem jgb{p:Prop}(h:p:=by exact bodyPost_ret (v:= .tuple #[.agg #[.int .i64 5,.string (s.extract a k),.float .f64 0,.int .i64 a,.int .i64 k],.int .i64 0]) zk rfl ⟨by rw [HKD.1],hk9⟩):p:=h
theorem qgb{p:Prop}(h:p:=by exact bodyPost_ret (v:= .tuple #[.agg #[.int .i64 7,.string (s.extract a k),.float .f64 0,.int .i64 a,.int .i64 k],.int .i64 0]) zk rfl ⟨by rw [HKD.1],hk9⟩):p:=h
theorem zhb{p:Prop}(h:p:=by exact bodyPost_ret (v:= .tuple #[.agg #[.int .i64 8,.string (s.extract a k),.float .f64 0,.int .i64 a,.int .i64 k],.int .i64 0]) zk rfl ⟨by rw [HKD.1],hk9⟩):p:=h
theorem jhb{p:Prop}(h:p:=by exact ⟨k+1,f,by omega,by omega,rfl,HWE,by (have:=Di (i:=4) (u:= .int .i64 ((k:Int)+1)) HR4.1;simpa using this),Ds qg HQ4.1,Ac.trans HK4.1 (fp':= [R+1]) (Ac.setCell _ _ _ _ qg) jl⟩):p:=h
theorem qhb{p:Prop}(h:p:=by exact bodyPost_ret (v:= .tuple #[.agg #[.int .i64 9,.string x,.float .f64 0,.int .i64 a,.int .i64 ((a:Int)+x.size)],.int .i64 0]) zk rfl ⟨rfl,hk9⟩):p:=h
theorem MV{p q:Prop}(c:q)(h:Wq q→p:=by intro hq;refine (Eh H.1).mono ?_;exact hq.out):p:=h c
theorem RU{p q:Prop}(c:q)(h:Wq q→p:=by intro hq;refine (Vs H.1 HT.1 H.1.le).mono ?_;exact hq.out):p:=h c
theorem qib{p q:Prop}(c:q)(h:Wq q→p:=by intro hq;refine (Vs HP0.1 HT.1 H.1.le).mono ?_;exact hq.out):p:=h c
theorem zjb{p:Prop}(h:p:=by exact ⟨rfl,⟨HP2.1.gl.keep hkp zr,hrow,HP2.1.p,HP2.1.size,le2,by simp only;omega⟩,(HK2.1.weaken (fp':= [p]) qg).trans hkp qg⟩):p:=h
theorem jjb{p:Prop}(h:p:=by exact ⟨⟨te,opn,ng⟩,HF.1,⟨HP2.1.gl.keep hkp zr,hrow,HP2.1.p,HP2.1.size,le2,HP2.1.ob⟩,HK.1.trans ((HK2.1.weaken (fp':= [p]) qg).trans hkp qg) qg⟩):p:=h
theorem qjb{p:Prop}(h:p:=by exact bodyPost_ret (v:= .tuple #[]) jcb rfl ⟨rfl,HP2.1,HK.1.trans HK2.1 qg⟩):p:=h
theorem zkb{p:Prop}(h:p:=by exact hc.mono fun e w' ⟨v,he,hr⟩=>by subst he;exact hK v w' hr):p:=h
theorem jkb{p:Prop}(h:p:=by exact bodyPost_ret (v:= .tuple #[.string ⟨#[]⟩,.complex .f64 0 0,.bool false]) jq rfl ⟨rfl,HK2.1⟩):p:=h
theorem YS{p q:Prop}(c:q)(h:Wq q→p:=by intro hq;refine (HS.1 _ (H.1.keep (Ac.alloc [] w (Fo 0 ⟨#[]⟩ 0 (.slice none 0 0) 0 0)))).mono ?_;exact hq.out):p:=h c
theorem zlb{p q:Prop}(c:q)(h:Wq q→p:=by intro hq;refine (Mz HP1.1 HN.1 zi).mono ?_;exact hq.out):p:=h c
theorem jlb{p:Prop}(h:p:=by exact HN3.1.keep t5 qg (fun x hx=>Nat.le_of_lt hx)):p:=h
theorem qlb{p:Prop}(h:p:=by exact HP3.1.keepN t5 qi qi):p:=h
theorem zmb{p:Prop}(h:p:=by exact HK3.1.trans t5 qg):p:=h
theorem WA{p q:Prop}(c:q)(h:Wq q→p:=by intro hq;refine (Eh HP0.1).mono ?_;exact hq.out):p:=h c
theorem NX{p:Prop}(h:p:=by exact Dj.refl _):p:=h
theorem RO{p:Prop}(h:p:=by exact Xk _ _ _ zi):p:=h
theorem jnb{p:Prop}(h:p:=by exact ((Mk g st (.mk k nm x kids re im)).trans0 (Uw g _ nm)).trans0 (Lp h)):p:=h
theorem qnb{p:Prop}(h:p:=by exact ⟨_,rfl,z (Gx hs _ _ _)⟩):p:=h
theorem zob{p:Prop}(h:p:=by exact ⟨_,rfl,z (Eb hs)⟩):p:=h
theorem job{p:Prop}(h:p:=by exact bodyPost_ret (v:= .int .i64 k) (by rw [HE.1];simp [results,Jo]<;>rfl) rfl ⟨rfl,rfl⟩):p:=h
theorem Le{p:Prop}(h:p:=by simp [results,Jo,go_sem]):p:=h
theorem zpb{p:Prop}(h:p:=by exact ⟨n,h1.keep hk (fun x hx hb=>by have:=hf x hx;omega) fun _ h=>h,h2⟩):p:=h
theorem jpb{p:Prop}(h:p:=by simp [results,Jo,go_sem,x0,x1,x2,x3,x4]):p:=h
theorem MR{p q:Prop}(c:q)(h:Wq q→p:=by intro hq;refine An (fun W=>Ac [] w W∧W.heap[w.heap.size]? =some (.cells #[.int .i64 0,.string ⟨#[]⟩,.float .f64 0,.slice none 0 0,.complex .f64 0 0] 50 (0,0))) ⟨jg,jb⟩ ?_;exact hq.out):p:=h c
theorem zqb{p q:Prop}(c:q)(h:Wq q→p:=by intro hq;refine An (fun W=>Ac [] e2 W∧W.heap[e2.heap.size]? =some (.cells #[.int .i64 n.kind,.string nt,.float .f64 nm,.slice na nl nc,.complex .f64 nr ni] 50 (0,0))) ⟨jg,jb⟩ ?_;exact hq.out):p:=h c
theorem UK{p:Prop}(h:p:=by simp [results,Jo,go_sem,q0,q1,q2,q3,q4]):p:=h
theorem WT{p q:Prop}(c:q)(h:Wq q→p:=by intro hq;refine (Vs HP0.1 HT.1 HP0.1.le).mono ?_;exact hq.out):p:=h c
theorem zrb{p:Prop}(h:p:=by exact ⟨rfl,HKw2.1⟩):p:=h
theorem jrb{p q:Prop}(c:q)(h:Wq q→p:=by intro hq;refine An (fun W=>Ac [] e1 W∧W.heap[e1.heap.size]? =some (.cells #[.int .i64 9,.string tx,.float .f64 nm,.int .i64 fr,.int .i64 te] 90 (0,0))) ⟨jg,jb⟩ ?_;exact hq.out):p:=h c
theorem qrb{p q:Prop}(c:q)(h:Wq q→p:=by intro hq;refine Bj (fun W=>Ac [] e2 W∧W.heap[e2.heap.size]? =some (.cells #[.int .i64 n.kind,.string nt,.float .f64 nm,.slice na nl nc,.complex .f64 nr ni] 50 (0,0))) ⟨jg,jb⟩ ?_;exact hq.out):p:=h c
theorem zsb{p:Prop}(h:p:=by exact ⟨n,st1,nt,nm,na,nl,nc,nr,ni,Dm w1.heap.size e2.heap.size,_,HG.1,nw3.1,up_n,us_nw3,dn_n,ns_n_p,ns_n_R,ns_n_B,HPw3.1,HKw3.1,Rw3_R.1,Rw3_B.1⟩):p:=h
theorem jsb{p:Prop}(h:p:=by exact Nat.le_trans (Nat.mul_le_mul (show l.length+1≤400001 by omega) hbb) zi):p:=h
theorem qsb{p q:Prop}(c:q)(h:Wq q→p:=by intro hq;refine An (fun W=>Ac [] e2 W∧W.heap[e2.heap.size]? =some (.cells #[.int .i64 5,.string tx,.float .f64 nm,.int .i64 fr,.int .i64 te] 90 (0,0))) ⟨jg,jb⟩ ?_;exact hq.out):p:=h c
theorem ztb{p q:Prop}(c:q)(h:Wq q→p:=by intro hq;refine An (fun W=>Ac [p] e4 W∧W.heap[p]? =some (.cells #[.string s,.int .i64 te,.int .i64 st.opn,.bool st.ng,.int .i64 0,.complex .f64 0 0] 87 (0,0))) ⟨jg,(zc HPe4.1.row l_p)⟩ ?_;exact hq.out):p:=h c
theorem YX{p q:Prop}(c:q)(h:Wq q→p:=by intro hq;refine (PL HPw1.1 HT.1).mono ?_;exact hq.out):p:=h c
theorem qtb{p q:Prop}(c:q)(h:Wq q→p:=by intro hq;refine An (fun W=>Ac [] e2 W∧W.heap[e2.heap.size]? =some (.cells #[.int .i64 kd,.string tx,.float .f64 nm,.int .i64 fr,.int .i64 te] 90 (0,0))) ⟨jg,jb⟩ ?_;exact hq.out):p:=h c
theorem zub{p q:Prop}(c:q)(h:Wq q→p:=by intro hq;refine An (fun W=>Ac [] w W∧W.heap[w.heap.size]? =some (.cells #[.int .i64 0,.int .i64 0,.slice none 0 0,.int .i64 0,.string ⟨#[]⟩,.float .f64 0,.slice none 0 0,.complex .f64 0 0,.complex .f64 0 0] 52 (0,0))) ⟨jg,jb⟩ ?_;exact hq.out):p:=h c
theorem jub{p q:Prop}(c:q)(h:Wq q→p:=by intro hq;refine Bj (fun W=>Ac [] e2 W∧W.heap[e2.heap.size]? =some (.cells #[.int .i64 kd,.string tx,.float .f64 nm,.int .i64 fr,.int .i64 te] 90 (0,0))∧W.heap[e2.heap.size+1]? =some (.cells #[.int .i64 0,.int .i64 0,.slice none 0 0,.int .i64 0,.string ⟨#[]⟩,.float .f64 0,.slice none 0 0,.complex .f64 0 0,.complex .f64 (Ag s fr).1 (Ag s fr).2] 52 (0,0))∧W.heap[e2.heap.size+2]? =some (.cells #[.string ⟨#[66,69,71,73,78]⟩,.string ⟨#[69,78,68]⟩,.string ⟨#[71,65,80]⟩] 124 (0,0))∧W.heap[e2.heap.size+3]? =some (.cells #[.int .i64 1,.int .i64 2,.int .i64 4] 168 (0,0))) ⟨jg,jd,jd,jd,jd⟩ ?_;exact hq.out):p:=h c
theorem qub{p:Prop}(h:p:=by exact (Je h.fix h.mak hm.2.2 m jh jh).mono fun r W' ⟨z,h0,h1,e,hm,hk⟩=>e▸q W' z h0 h1 (h.cal hm hk)):p:=h
theorem YF{p:Prop}(h:p:=by exact ⟨_,rfl,((HB.mak).kp0 HB.fix hU).to jh,HB.keep.trans hU qg⟩):p:=h
theorem RT{p:Prop}(h:p:=by simp [results,Jo,go_sem,z0,z1,z2,z3,z4]):p:=h
theorem MQ{p q:Prop}(c:q)(h:Wq q→p:=by intro hq;refine HB.sn1 jg zb zi ?_;exact hq.out):p:=h c
theorem zwb{p q:Prop}(c:q)(h:Wq q→p:=by intro hq;refine HB.txt (FN HB.here jh) ?_;exact hq.out):p:=h c
theorem PE{p q:Prop}(c:q)(h:Wq q→p:=by intro hq;refine HB.nod (Wi HB.here jh) ?_;exact hq.out):p:=h c
theorem Mp{p q:Prop}(c:q)(h:Wq q→p:=by intro hq;refine HB.nod (hE _ _ HB.here jh) ?_;exact hq.out):p:=h c
theorem MU{p q:Prop}(c:q)(h:Wq q→p:=by intro hq;refine HB.txt (MM HB.here jh) ?_;exact hq.out):p:=h c
theorem jxb{p q:Prop}(c:q)(h:Wq q→p:=by intro hq;refine Bj (fun W=>Ac [M.k] w W∧W.heap[M.k]? =some (.cells #[.slice M.la M.ln M.lc,.int .i64 i,.int .i64 ((nn+1:Nat):Int),.bool fn,.int .i64 l] 77 (0,0))∧W.heap[w.heap.size]? =some (.cells #[.int .i64 0,.string ⟨#[]⟩,.float .f64 0,.slice none 0 0,.complex .f64 0 0] 50 (0,0))) ⟨jg,qo,jp⟩ ?_;exact hq.out):p:=h c
theorem IJ{p q:Prop}(c:q)(h:Wq q→p:=by intro hq;refine HB.sn2 jg zb zi ?_;exact hq.out):p:=h c
theorem YE{p q:Prop}(c:q)(h:Wq q→p:=by intro hq;refine HB.nod (hB _ _ HB.here jh) ?_;exact hq.out):p:=h c
theorem jyb{p:Prop}(h:p:=by exact ⟨c,0,I+1+1,none,0,rfl,rfl,h0,by omega,by omega,by omega,by rw [Nat.zero_mul];exact HB.toBnR.so⟩):p:=h
theorem qyb{p:Prop}(h:p:=by exact ⟨c -1,m+1,J+K,_,_,rfl,rfl,by omega,by omega,by omega,by omega,by rw [e2];exact HB⟩):p:=h
theorem zzb{p q:Prop}(c:q)(h:Wq q→p:=by intro hq;refine Bj (fun W=>Ac [] w W∧W.heap[w.heap.size]? =some (.cells #[.int .i64 0,.string ⟨#[]⟩,.float .f64 0,.slice none 0 0,.complex .f64 0 0] 50 (0,0))) ⟨jg,zb⟩ ?_;exact hq.out):p:=h c
theorem jzb{p q:Prop}(c:q)(h:Wq q→p:=by intro hq;refine HB.nod (h2 _ _ HB.here jh) ?_;exact hq.out):p:=h c
theorem qzb{p:Prop}(h:p:=by exact .inl ⟨h0,(Option.some.inj h).symm⟩):p:=h
theorem YK{p:Prop}(h:p:=by simp [results,Jo,go_sem,q0,q1]):p:=h
theorem jac{p q:Prop}(c:q)(h:Wq q→p:=by intro hq;refine Bj (fun W=>Ac [] w W∧W.heap[w.heap.size]? =some (.cells #[.int .i64 kd,.string tx,.float .f64 fm,.slice na nl nc,.complex .f64 re im] 50 (0,0))) ⟨jg,jb⟩ ?_;exact hq.out):p:=h c
theorem qac{p:Prop}(h:p:=by exact ⟨rfl,jg⟩):p:=h
theorem zbc{p:Prop}(h:p:=by exact ⟨_,_,_,rfl,HCw3.1,HSw3.1⟩):p:=h
theorem jbc{p:Prop}(h:p:=by exact ⟨0,rfl,Nat.zero_le _,rfl,rfl,Av⟩):p:=h
theorem qbc{p:Prop}(h:p:=by exact ⟨k+1,by first|rfl|(simp;done)|(simp;omega),by omega,by omega,HM.1,HK.1.trans (fp':= []) Av qg⟩):p:=h
theorem zcc{p:Prop}(h:p:=by exact ⟨k+1,by first|rfl|(simp;done)|(simp;omega),by omega,by omega,HM.1,HKq.1.trans (fp':= []) Av qg⟩):p:=h
theorem WD{p q:Prop}(c:q)(h:Wq q→p:=by intro hq;refine (Zk hK HD.1 _ _ _).mono ?_;exact hq.out):p:=h c
theorem WV{p:Prop}(h:p:=by exact ⟨by rw [HBV.1];rfl,Av⟩):p:=h
theorem zdc{p q:Prop}(c:q)(h:Wq q→p:=by intro hq;refine An (fun W=>Ac [] w W∧W.heap[w.heap.size]? =some (Gm kd tx fm na kids.length nc re im)) ⟨Av,Nv⟩ ?_;exact hq.out):p:=h c
theorem jdc{p q:Prop}(c:q)(h:Wq q→p:=by intro hq;refine An (fun W=>Ac [] wr W∧W.heap[wr.heap.size]? =some (Gm kk.kind kk.name fm3 na3 kk.kids.length nc3 kk.re kk.im)) ⟨Av,Nv⟩ ?_;exact hq.out):p:=h c
theorem ZQ{p:Prop}(h:p:=by exact ⟨0,_,_,rfl,Nat.zero_le _,rfl,HE.1,HD.1.kp0 Av,HI.1,HS.1.add Av,Ac.at (fp:= []) Av HB.1 qg⟩):p:=h
theorem zec{p q:Prop}(c:q)(h:Wq q→p:=by intro hq;refine Bj (fun W=>Ac [] w W∧W.heap[w.heap.size]? =some (Gm kd tx fm na kids.length nc re im)) ⟨Av,Nv⟩ ?_;exact hq.out):p:=h c
theorem AU{p q:Prop}(c:q)(h:Wq q→p:=by intro hq;simp only [Act.put,List.getElem_toArray,List.getElem_cons_zero,List.getElem_cons_succ,List.setIfInBounds_toArray,List.set_cons_zero,List.set_cons_succ];exact hq.out):p:=h c
theorem IK{p q:Prop}(c:q)(h:Wq q→p:=by intro hq;(try simp only [Act.put,List.getElem_toArray,List.getElem_cons_zero,List.getElem_cons_succ,List.setIfInBounds_toArray,List.set_cons_zero,List.set_cons_succ]);exact hq.out):p:=h c
theorem WL{p q:Prop}(c:q)(h:Wq q→p:=by intro hq;refine wpAnyH_ready (rs:= [6]) qh qg ?_;exact hq.out):p:=h c
theorem XI{p q:Prop}(c:q)(h:Wq q→p:=by intro hq;refine wpAnyH_ready (rs:= [7]) qh qg ?_;exact hq.out):p:=h c
theorem YU{p q:Prop}(c:q)(h:Wq q→p:=by intro hq;refine wpAnyH_ready (rs:= [11]) qh qg ?_;exact hq.out):p:=h c
theorem zgc{p q:Prop}(c:q)(h:Wq q→p:=by intro hq;refine Mo (i:=12) (fun _ _ _ h=>h) trivial ?_;exact hq.out):p:=h c
theorem EY{p q:Prop}(c:q)(h:Wq q→p:=by intro hq;refine wpAnyH_done qh ?_ _;exact hq.out):p:=h c
theorem qgc{p q:Prop}(c:q)(h:Wq q→p:=by intro hq;refine Bw (fun W=>Ac [] wd W∧W.heap[wd.heap.size]? =some (.cells #[.string s] 9 (0,0))) ⟨Av,Nv⟩ ?_;exact hq.out):p:=h c
theorem zhc{p q:Prop}(c:q)(h:Wq q→p:=by intro hq;refine Fj rfl (.tmp 25) (.tmp 27) rfl (b:=w.heap.size) (v:= .slice none 0 0) (n:=0) (xs:= []) rfl (World.ownsRow_nil _ _ _ _) ⟨wd.heap.size,0,none⟩ 1 1 (l:= [s]) rfl rfl (Jj (enc:=stC) rfl ⟨_,cG⟩) jh HKd.1.size ?_;exact hq.out):p:=h c
theorem WC{p q:Prop}(c:q)(h:Wq q→p:=by intro hq;simp only [List.pop_toArray,List.dropLast_cons_cons,List.dropLast_singleton];exact hq.out):p:=h c
theorem VX{p q:Prop}(c:q)(h:Wq q→p:=by intro hq;refine Mo (i:=0) (fun c a' w'=>hR3 c _ _ _ (fun h=>h)) hSS ?_;exact hq.out):p:=h c
theorem Ej{p q:Prop}(c:q)(h:Wq q→p:=by intro hq;simp only [Act.put,List.setIfInBounds_toArray,List.set_cons_zero,List.set_cons_succ];exact hq.out):p:=h c
theorem WB{p q:Prop}(c:q)(h:Wq q→p:=by intro hq;refine Mo (i:=1) (fun c a' w'=>hR3 c _ _ _ (fun h=>h)) hSS ?_;exact hq.out):p:=h c
theorem YT{p q:Prop}(c:q)(h:Wq q→p:=by intro hq;refine Mo (i:=2) (fun c a' w'=>hR3 c _ _ _ (fun h=>h)) hSS ?_;exact hq.out):p:=h c
theorem WK{p q:Prop}(c:q)(h:Wq q→p:=by intro hq;refine Mo (i:=3) (fun c a' w'=>hR3 c _ _ _ (fun h=>h)) hSS ?_;exact hq.out):p:=h c
theorem ZA{p q:Prop}(c:q)(h:Wq q→p:=by intro hq;refine Mo (i:=4) (fun c a' w'=>hR3 c _ _ _ (fun h=>h)) hSS ?_;exact hq.out):p:=h c
theorem VW{p q:Prop}(c:q)(h:Wq q→p:=by intro hq;refine Mo (i:=5) (fun c a' w'=>hR3 c _ _ _ (fun h=>h)) hSS ?_;exact hq.out):p:=h c
theorem zkc{p q:Prop}(c:q)(h:Wq q→p:=by intro hq;refine Mo (i:=6) (fun c a' w'=>hR3 c _ _ _ (fun h=>h)) hSS ?_;exact hq.out):p:=h c
theorem YY{p q:Prop}(c:q)(h:Wq q→p:=by intro hq;refine Mo (i:=7) (fun c a' w'=>hR3 c _ _ _ (fun h=>h)) hSS ?_;exact hq.out):p:=h c
theorem YR{p q:Prop}(c:q)(h:Wq q→p:=by intro hq;refine wpAnyH_ready (rs:= [8]) qh qg ?_;exact hq.out):p:=h c
theorem Gv{p q:Prop}(c:q)(h:Wq q→p:=by intro hq;(try simp only [Act.put,List.setIfInBounds_toArray,List.set_cons_zero,List.set_cons_succ]);exact hq.out):p:=h c
theorem XG{p q:Prop}(c:q)(h:Wq q→p:=by intro hq;refine wpAnyH_ready (rs:= [9]) qh qg ?_;exact hq.out):p:=h c
theorem qlc{p q:Prop}(c:q)(h:Wq q→p:=by intro hq;refine Mo (i:=11) (fun c a' w'=>hR3 c _ _ _ (fun h=>h)) hSS ?_;exact hq.out):p:=h c
theorem zmc{p:Prop}(h:p:=by exact And.imp (fun h=>⟨_,h⟩) ((KT.of0 HKd.1).add hka).trans (hgr _ Av (Kj r_c))):p:=h
theorem jmc{p q:Prop}(c:q)(h:Wq q→p:=by intro hq;refine Mo (i:=8) (fun c a' w'=>hR3 c _ _ _ (fun h=>h)) hSS ?_;exact hq.out):p:=h c
theorem qmc{p q:Prop}(c:q)(h:Wq q→p:=by intro hq;refine Mo (i:=12) (fun c a' w'=>hR3 c _ _ _ (fun h=>h)) hSS ?_;exact hq.out):p:=h c
theorem znc{p q:Prop}(c:q)(h:Wq q→p:=by intro hq;refine Mo (i:=13) (fun c a' w'=>hR3 c _ _ _ (fun h=>h)) hSS ?_;exact hq.out):p:=h c
theorem jnc{p q:Prop}(c:q)(h:Wq q→p:=by intro hq;refine Mo (i:=16) (fun c a' w'=>hR3 c _ _ _ (fun h=>h)) hSS ?_;exact hq.out):p:=h c
theorem YP{p q:Prop}(c:q)(h:Wq q→p:=by intro hq;refine wpAnyH_ready (rs:= [10]) qh qg ?_;exact hq.out):p:=h c
theorem zoc{p:Prop}(h:p:=by exact (El hck ht).mono fun _ _ ⟨k1,k2⟩=>⟨_,k1,rfl,k2⟩):p:=h
theorem XF{p q:Prop}(c:q)(h:Wq q→p:=by intro hq;refine Bj (fun W=>Ac [] w W∧W.heap[w.heap.size]? =some (.cells #[.int .i64 kd,.string tx,.float .f64 fm,.slice na kids.length nc,.complex .f64 re im] 50 (0,0))) ⟨jg,jb⟩ ?_;exact hq.out):p:=h c
theorem ZO{p:Prop}(h:p:=by exact ⟨_,_,_,rfl,HCw51.1,HSw51.1⟩):p:=h
theorem zpc{p q:Prop}(c:q)(h:Wq q→p:=by intro hq;refine An (fun W=>Ac [] w W∧W.heap[w.heap.size]? =some (.cells #[.int .i64 kd,.string tx,.float .f64 fm,.slice na kids.length nc,.complex .f64 re im] 50 (0,0))) ⟨jg,jb⟩ ?_;exact hq.out):p:=h c
theorem jpc{p q:Prop}(c:q)(h:Wq q→p:=by intro hq;refine An (fun W=>Ac [] w1 W∧W.heap[w1.heap.size]? =some (.cells #[.int .i64 kk.kind,.string kk.name,.float .f64 fm3,.slice na3 kk.kids.length nc3,.complex .f64 kk.re kk.im] 50 (0,0))) ⟨jg,jb⟩ ?_;exact hq.out):p:=h c
theorem qpc{p:Prop}(h:p:=by exact ⟨by rw [ha0],_,_,_,by rw [hs0];exact HCe22.1,HSe22.1,Re22_B.1,off_B⟩):p:=h
theorem zqc{p q:Prop}(c:q)(h:Wq q→p:=by intro hq;refine Ch (fun W=>Ac [] w1 W∧W.heap[w1.heap.size]? =some (.cells #[.int .i64 kk.kind,.string kk.name,.float .f64 fm3,.slice na3 kk.kids.length nc3,.complex .f64 kk.re kk.im] 50 (0,0))) ⟨jg,ju⟩ ?_;exact hq.out):p:=h c
theorem jqc{p:Prop}(h:p:=by exact ⟨by rw [ha0],_,_,_,by rw [hs0];exact HCw21.1,HSw21.1,Rw21_B.1,off_B⟩):p:=h
theorem qqc{p:Prop}(h:p:=by exact ⟨by rw [ha0],_,_,_,by rw [hs0];exact HCw1.1,HSw1.1,Rw1_B.1,off_B⟩):p:=h
theorem YG{p q:Prop}(c:q)(h:Wq q→p:=by intro hq;refine An (fun W=>Ac [] wr W∧W.heap[wr.heap.size]? =some (.cells #[.int .i64 kk.kind,.string kk.name,.float .f64 fm3,.slice na3 kk.kids.length nc3,.complex .f64 kk.re kk.im] 50 (0,0))) ⟨jg,jb⟩ ?_;exact hq.out):p:=h c
theorem jrc{p q:Prop}(c:q)(h:Wq q→p:=by intro hq;refine (HREC.1 _ _ _ _ hr hkn _ _ _ _ HCw51.1).mono ?_;exact hq.out):p:=h c
theorem qrc{p:Prop}(h:p:=by exact ⟨0,_,_,rfl,Nat.zero_le _,rfl,HE1.1,HD.1.kp0 Av,HI.1,HS.1.add Av⟩):p:=h
theorem zsc{p q:Prop}(c:q)(h:Wq q→p:=by intro hq;refine Bj (fun W=>Ac [] wr W∧W.heap[wr.heap.size]? =some (.cells #[.int .i64 u.thing,.int .i64 u.how,.complex .f64 u.re u.im] 149 (0,0))) ⟨Av,Nv⟩ ?_;exact hq.out):p:=h c
theorem jsc{p:Prop}(h:p:=by exact ⟨k+1,_,by first|rfl|(simp;done)|(simp;omega),by omega,by omega,HKL.1,HE3.1,HD.1.kp0 Av,HS.1.add Av,Ac.at (fp:= []) Av HR.1 qg⟩):p:=h
theorem qsc{p:Prop}(h:p:=by exact ⟨k+1,by first|rfl|(simp;done)|(simp;omega),by omega,by omega,_,hku,HKkbw71.1,HCw71.1,HKw71.1⟩):p:=h
theorem ztc{p:Prop}(h:p:=by exact ⟨k+1,by first|rfl|(simp;done)|(simp;omega),by omega,by omega,_,hku,(Ex.put HES.1 Rw74_kb.1).of HOF.1,HCw74.1,HKw74.1⟩):p:=h
theorem ZX{p q:Prop}(c:q)(h:Wq q→p:=by intro hq;refine An (fun W=>Ac [] wn W∧W.heap[wn.heap.size]? =some (.cells #[.int .i64 t.1,.string t.2] 101 (0,0))) ⟨jg,jb⟩ ?_;exact hq.out):p:=h c
theorem qtc{p:Prop}(h:p:=by exact ⟨p++ [t],n2,HRw51.1,by omega,HKkbw51.1.of HOF.1,HCw51.1,HKw51.1⟩):p:=h
theorem zuc{p q:Prop}(c:q)(h:Wq q→p:=by intro hq;refine Ch (fun W=>Ac [] wn W∧W.heap[wn.heap.size]? =some (.cells #[.int .i64 t.1,.string t.2] 101 (0,0))) ⟨jg,jb⟩ ?_;exact hq.out):p:=h c
theorem juc{p q:Prop}(c:q)(h:Wq q→p:=by intro hq;refine An (fun W=>Ac [] wr W∧W.heap[wr.heap.size]? =some (.cells #[.complex .f64 u.re u.im,.int .i64 u.of.1,.string u.of.2,.bool u.array,.int .i64 u.param.1,.string u.param.2,.bool true,.bool false] 106 (0,0))) ⟨jg,jb⟩ ?_;exact hq.out):p:=h c
theorem quc{p:Prop}(h:p:=by exact ⟨k+1,by first|rfl|(simp;done)|(simp;omega),by omega,by omega,(Al st1 u.re u.im 30),by rw [Ks];exact HL.1,by rw [Ks];exact har,HKkbe53.1,HCe53.1,HSe53.1⟩):p:=h
theorem zvc{p q:Prop}(c:q)(h:Wq q→p:=by intro hq;refine Bj (fun W=>Ac [] wr W∧W.heap[wr.heap.size]? =some (.cells #[.complex .f64 u.re u.im,.int .i64 u.of.1,.string u.of.2,.bool true,.int .i64 u.param.1,.string u.param.2,.bool false,.bool false] 106 (0,0))) ⟨jg,jb⟩ ?_;exact hq.out):p:=h c
theorem jvc{p:Prop}(h:p:=by exact ⟨rfl,hku.trans (fp':= []) jg qg⟩):p:=h
theorem qvc{p:Prop}(h:p:=by exact ⟨k+1,by first|rfl|(simp;done)|(simp;omega),by omega,by omega,st1,HL.1,har,HKkbw52.1,HCw52.1,HSw52.1⟩):p:=h
theorem zwc{p q:Prop}(c:q)(h:Wq q→p:=by intro hq;refine Bj (fun W=>Ac [] wr W∧W.heap[wr.heap.size]? =some (.cells #[.complex .f64 u.re u.im,.int .i64 u.of.1,.string u.of.2,.bool false,.int .i64 u.param.1,.string u.param.2,.bool false,.bool false] 106 (0,0))) ⟨jg,jb⟩ ?_;exact hq.out):p:=h c
theorem jwc{p q:Prop}(c:q)(h:Wq q→p:=by intro hq;refine wp_region_held_drew (S:=fun V=>V.cell? ⟨C,1,none⟩=some (.int .i64 u.how)) qh (Aa (Ac.at (fp:= []) (Ac.drew [] wq) HCB.1 qg) 1) ?_;exact hq.out):p:=h c
theorem qwc{p q:Prop}(c:q)(h:Wq q→p:=by intro hq;refine wp_region_held_drew (S:=fun V=>V.cell? ⟨C,0,none⟩=some (.int .i64 (t:Int))∧V.cell? ⟨C,1,none⟩=some (.int .i64 u.how)∧V.cell? ⟨B,r,none⟩=some (.int .i64 v)) qh ⟨Aa (Ac.at (fp:= []) (Ac.drew [] wq) HCB.1 qg) 0,Aa (Ac.at (fp:= []) (Ac.drew [] wq) HCB.1 qg) 1,HKC.1 _ (Ac.at (fp:= []) (Ac.drew [] wq) HR.1 qg)⟩ ?_;exact hq.out):p:=h c
theorem zxc{p:Prop}(h:p:=by exact ⟨HBT.1,HS.1.add HQ.1,HD.1.kp0 HQ.1,HR.1,by rw [HT.1];exact HCB.1⟩):p:=h
theorem jxc{p:Prop}(h:p:=by exact ⟨k'+1,_,by first|rfl|(simp;done)|(simp;omega),by omega,by omega,HE3.1,hd.kp0 Av,(HS.1.trans hs).add Av,Ac.at (fp:= []) Av (hs.at HB.1 qg) qg⟩):p:=h
theorem qxc{p:Prop}(h:p:=by simp [results,Jo,go_sem,q0,q1,q2]):p:=h
theorem zyc{p:Prop}(h:p:=by exact ⟨p++ [t],n2,_,_,T1,T2,HRw51.1,by omega,by rw [HPS.1,HPA.1];exact HOw51.1,HKkbw51.1,HKw51.1,Rw51_R.1,Rw51_X.1⟩):p:=h
theorem jyc{p q:Prop}(c:q)(h:Wq q→p:=by intro hq;refine Hz (fun W=>Ac [] e52 W∧W.heap[e52.heap.size]? =some (.cells #[.string t.2] 9 (0,0))) ⟨jg,jb⟩ ?_;exact hq.out):p:=h c
theorem qyc{p:Prop}(h:p:=by exact ⟨p++ [t],n2,_,_,_,_,HRw55.1,by omega,by rw [HPS.1,HPA.1];exact HOw55.1,HKkbw55.1,HKw55.1,Rw55_R.1,Rw55_X.1⟩):p:=h
theorem zzc{p:Prop}(h:p:=by exact ⟨k+1,sc,ar,vs,va,by first|rfl|(simp;done)|(simp;omega),by omega,by omega,hn,by omega,by omega,HNS.1.kp (KT.of0 (ts:= []) Av) qg,HNA.1.kp (KT.of0 (ts:= []) Av) qg,HD.1.kp0 Av,Ac.at (fp:= []) Av HR.1 qg,Ac.at (fp:= []) Av HO.1 qg⟩):p:=h
theorem jzc{p q:Prop}(c:q)(h:Wq q→p:=by intro hq;refine Bj (fun W=>Ac [] wr W∧W.heap[wr.heap.size]? =some (.cells #[.string fu.name,.slice pa fu.params.length pc,.int .i64 fu.body.kind,.string fu.body.name,.float .f64 fmb,.slice nab fu.body.kids.length ncb,.complex .f64 fu.body.re fu.body.im,.complex .f64 fu.re fu.im] 61 (0,0))) ⟨jg,jb⟩ ?_;exact hq.out):p:=h c
theorem qzc{p q:Prop}(c:q)(h:Wq q→p:=by intro hq;refine Ch (fun W=>Ac [K.mn] e61 W∧W.heap[K.mn]? =some (.map (Cm Cn (Cw ((k+1,s):Ae) (.agg #[]) ek es).1) (Cw ((k+1,s):Ae) (.agg #[]) ek es).2)) ⟨jg,(zc HEB.1 l_mn)⟩ ?_;exact hq.out):p:=h c
theorem zad{p:Prop}(h:p:=by exact ⟨i+1,by first|rfl|(simp;done)|(simp;omega),by omega,by omega,_,by rw [HS6.1];exact HS7.1,HCw62.1,HSw62.1,Rw62_F.1⟩):p:=h
theorem jad{p q:Prop}(c:q)(h:Wq q→p:=by intro hq;refine Bj (fun W=>Ac [K.c] w W∧W.heap[K.c]? =some (.cells #[.slice K.ra K.g.rules.length K.rc,.slice K.fa K.g.funcs.length K.fc,.map (some K.mf),.int .i64 st.fn,.int .i64 st.rule,.int .i64 (st.loops+1),.slice ua st.uses.length uc,.map (some K.ms),.map (some K.mn),.complex .f64 st.re st.im,.int .i64 st.e] 70 (0,0))∧W.heap[w.heap.size]? =some (.cells #[.int .i64 kd,.string tx,.float .f64 fm,.slice na kids.length nc,.complex .f64 re im] 50 (0,0))) ⟨jg,(qb HC0.1.row l_c),(qb HC0.1.row l_c)⟩ ?_;exact hq.out):p:=h c
theorem qad{p:Prop}(h:p:=by exact ⟨0,rfl,Nat.zero_le _,rfl,_,_,_,_,HCF.1,HCw1.1,HSw1.1,Rw1_B.1,off_B⟩):p:=h
theorem zbd{p:Prop}(h:p:=by exact ⟨k+1,by first|rfl|(simp;done)|(simp;omega),by omega,by omega,_,_,_,_,hcf,HCe52.1,HSe52.1,Re52_B.1,off_B⟩):p:=h
theorem jbd{p:Prop}(h:p:=by exact ⟨rfl,rfl,T9,ua9,uc9,hc,HSw51.1.trans hs⟩):p:=h
theorem qbd{p:Prop}(h:p:=by exact ⟨k+1,by first|rfl|(simp;done)|(simp;omega),by omega,by omega,_,_,_,_,hcf,HCe53.1,HSe53.1,Re53_B.1,off_B⟩):p:=h
theorem zcd{p q:Prop}(c:q)(h:Wq q→p:=by intro hq;refine (Od hK HCw1.1 HNR.1).mono ?_;exact hq.out):p:=h c
theorem jcd{p:Prop}(h:p:=by exact CK.app' hK HSe21.1 Re21_B.1 off_B hsu hcu hkq hfl hka hown jg (ja r_c)):p:=h
theorem qcd{p:Prop}(h:p:=by exact ⟨0,rfl,Nat.zero_le _,rfl,_,_,_,_,HCF.1,HCl.1,HSl.1,RBl.1,off_B⟩):p:=h
theorem zdd{p q:Prop}(c:q)(h:Wq q→p:=by intro hq;refine (Hv hK HCw1.1 re im 32).mono ?_;exact hq.out):p:=h c
theorem jdd{p:Prop}(h:p:=by exact ⟨_,_,_,HCe21.1,HSe21.1,Re21_B.1,off_B⟩):p:=h
theorem qdd{p:Prop}(h:p:=by exact ⟨_,_,_,HCw1.1,HSw1.1,Rw1_B.1,off_B⟩):p:=h
theorem zed{p:Prop}(h:p:=by exact ⟨_,rfl,⟨none,0,none,0,none,0,rfl,Aq.nil,Aq.nil,Aq.nil⟩,HKR.1 HCX.1.keep (hk8.1.trans hW qg)⟩):p:=h
theorem jed{p:Prop}(h:p:=by exact (VL hv hx).mono fun r w' ⟨iv,h1,⟨sa,sc,aa,ac,pa,pc,h2,h3,h4,h5⟩,h6⟩=>⟨sa,sc,aa,ac,pa,pc,by rw [h1,h2],h3.to Bu (fun _ _=>trivial),h4.to Bu (fun _ _=>trivial),h5.to Bx (fun _ _=>trivial),h6⟩):p:=h
theorem qed{p q:Prop}(c:q)(h:Wq q→p:=by intro hq;refine Bd (f:=30) (vals:= #[.pointer (some ⟨M.k,0,none⟩),.int .i64 1]) rfl _ rfl qh (Qx _ _ HP.1.here jh) ?_;exact hq.out):p:=h c
theorem zfd{p q:Prop}(c:q)(h:Wq q→p:=by intro hq;refine Ch (fun V=>Ac [R] wb V∧V.heap[R]? =some (.cells #[.int .i64 kd,.int .i64 n,.slice pa pl pc,.int .i64 30,.string ⟨#[]⟩,.float .f64 0,.slice aaq (bm+1) ccq,.complex .f64 0 0,.complex .f64 0 0] 52 (0,0))) ⟨jg,(jf HR.1)⟩ ?_;exact hq.out):p:=h c
theorem jfd{p q:Prop}(c:q)(h:Wq q→p:=by intro hq;refine Hz (fun V=>Ac [] wd V∧V.heap[wd.heap.size]? =some (.cells #[.int .i64 kd,.int .i64 n,.slice pa pl pc,.int .i64 30,.string ⟨#[]⟩,.float .f64 0,.slice aaq (bm+1) ccq,.complex .f64 0 0,.complex .f64 0 0] 52 (0,0))) ⟨jg,qe⟩ ?_;exact hq.out):p:=h c
theorem qfd{p q:Prop}(c:q)(h:Wq q→p:=by intro hq;refine Ch (fun W=>Ac [G] wa W∧W.heap[G]? =some (.cells #[.slice aa (m+1) cc,.slice none 0 0] 33 (0,0))) ⟨jg,(jf HGa.1)⟩ ?_;exact hq.out):p:=h c
theorem zgd{p:Prop}(h:p:=by exact ⟨i -1,m+1,wa.heap.size,_,_,rfl,by omega,by omega,by omega,by omega,HPa.1.kp hk qp,hr,by rw [e2];exact HOa.1.step hk qp,hk.size,by have:=HE3.1;have:=HGE.1;omega⟩):p:=h
theorem jgd{p q:Prop}(c:q)(h:Wq q→p:=by intro hq;refine Bd (f:=31) (vals:= #[.pointer (some ⟨M.k,0,none⟩),.int .i64 2]) rfl _ rfl qh (QX HP.1.here jh) ?_;exact hq.out):p:=h c
theorem qgd{p q:Prop}(c:q)(h:Wq q→p:=by intro hq;refine JW rfl (.tmp 85) (.tmp 90) rfl rfl rfl HFB.1 zo (b:=w.heap.size+3) (by have:=HZ.1;have:=HGE.1;omega) ?_;exact hq.out):p:=h c
theorem zhd{p q:Prop}(c:q)(h:Wq q→p:=by intro hq;refine Bw (fun V=>Ac [] u2 V∧(V.cell? ⟨G,1,none⟩=some (.slice (some ⟨F,0,none⟩) 1 cp)∧V.cell? ⟨F,5,none⟩=some (.slice ba bm bc))) ⟨jw,hSS⟩ ?_;exact hq.out):p:=h c
theorem jhd{p q:Prop}(c:q)(h:Wq q→p:=by intro hq;refine Bd (f:=32) (vals:= #[.int .i64 4,.string ⟨#[112]⟩,.slice none 0 0]) rfl _ rfl qh (TV _ _ _ _ _ _) ?_;exact hq.out):p:=h c
theorem qhd{p q:Prop}(c:q)(h:Wq q→p:=by intro hq;refine Bw (fun V=>Ac [] cw V∧V.heap[cw.heap.size]? =some (.cells #[.int .i64 4,.string ⟨#[112]⟩,.float .f64 0,.slice none 0 0,.complex .f64 0 0] 50 (0,0))∧(V.cell? ⟨G,1,none⟩=some (.slice (some ⟨F,0,none⟩) 1 cp)∧V.cell? ⟨F,5,none⟩=some (.slice ba bm bc))) ⟨jg,qe,hSS⟩ ?_;exact hq.out):p:=h c
theorem zid{p q:Prop}(c:q)(h:Wq q→p:=by intro hq;refine Bd (f:=32) (vals:= #[.int .i64 5,.string ⟨#[113]⟩,.slice (some ⟨bHS1.heap.size,0,none⟩) 1 1]) rfl _ rfl qh (TV _ _ _ _ _ _) ?_;exact hq.out):p:=h c
theorem jid{p q:Prop}(c:q)(h:Wq q→p:=by intro hq;refine Bw (fun V=>Ac [] cw V∧V.heap[cw.heap.size]? =some (.cells #[.int .i64 5,.string ⟨#[113]⟩,.float .f64 0,.slice (some ⟨bHS1.heap.size,0,none⟩) 1 1,.complex .f64 0 0] 50 (0,0))∧(V.cell? ⟨G,1,none⟩=some (.slice (some ⟨F,0,none⟩) 1 cp)∧V.cell? ⟨F,5,none⟩=some (.slice ba bm bc))) ⟨jg,qe,hSS⟩ ?_;exact hq.out):p:=h c
theorem qid{p q:Prop}(c:q)(h:Wq q→p:=by intro hq;refine Bd (f:=32) (vals:= #[.int .i64 44,.string ⟨#[]⟩,.slice (some ⟨bHS2.heap.size,0,none⟩) 1 1]) rfl _ rfl qh (TV _ _ _ _ _ _) ?_;exact hq.out):p:=h c
theorem zjd{p q:Prop}(c:q)(h:Wq q→p:=by intro hq;refine Mo (i:=15) (fun c a' w'=>hR3 c _ _ _ (fun h=>h)) hSS ?_;exact hq.out):p:=h c
theorem jjd{p q:Prop}(c:q)(h:Wq q→p:=by intro hq;refine Bd (f:=32) (vals:= #[.int .i64 4,.string ⟨#[122]⟩,.slice none 0 0]) rfl _ rfl qh (TV _ _ _ _ _ _) ?_;exact hq.out):p:=h c
theorem qjd{p q:Prop}(c:q)(h:Wq q→p:=by intro hq;refine Bw (fun V=>Ac [] cw V∧V.heap[cw.heap.size]? =some (.cells #[.int .i64 4,.string ⟨#[122]⟩,.float .f64 0,.slice none 0 0,.complex .f64 0 0,.int .i64 k1,.string nm1,.float .f64 nu1,.slice a1 l1 c1,.complex .f64 re1 im1] 50 (0,0))∧V.cell? ⟨G,1,none⟩=some (.slice (some ⟨F,0,none⟩) 1 cp)) ⟨jg,qe,hSS⟩ ?_;exact hq.out):p:=h c
theorem zkd{p q:Prop}(c:q)(h:Wq q→p:=by intro hq;refine Bd (f:=32) (vals:= #[.int .i64 14,.string ⟨#[]⟩,.slice (some ⟨bHS1.heap.size,0,none⟩) 2 2]) rfl _ rfl qh (TV _ _ _ _ _ _) ?_;exact hq.out):p:=h c
theorem jkd{p q:Prop}(c:q)(h:Wq q→p:=by intro hq;refine Bw (fun V=>Ac [] cw V∧V.heap[cw.heap.size]? =some (.cells #[.int .i64 14,.string ⟨#[]⟩,.float .f64 0,.slice (some ⟨bHS1.heap.size,0,none⟩) 2 2,.complex .f64 0 0] 50 (0,0))∧V.cell? ⟨G,1,none⟩=some (.slice (some ⟨F,0,none⟩) 1 cp)) ⟨jg,qe,hSS⟩ ?_;exact hq.out):p:=h c
theorem qkd{p q:Prop}(c:q)(h:Wq q→p:=by intro hq;refine Bd (f:=32) (vals:= #[.int .i64 40,.string ⟨#[]⟩,.slice (some ⟨bHS2.heap.size,0,none⟩) 1 1]) rfl _ rfl qh (TV _ _ _ _ _ _) ?_;exact hq.out):p:=h c
theorem zld{p q:Prop}(c:q)(h:Wq q→p:=by intro hq;refine Bw (fun V=>Ac [] cw V∧V.heap[cw.heap.size]? =some (.cells #[.int .i64 40,.string ⟨#[]⟩,.float .f64 0,.slice (some ⟨bHS2.heap.size,0,none⟩) 1 1,.complex .f64 0 0] 50 (0,0))∧V.cell? ⟨G,1,none⟩=some (.slice (some ⟨F,0,none⟩) 1 cp)) ⟨jg,qe,hSS⟩ ?_;exact hq.out):p:=h c
theorem jld{p q:Prop}(c:q)(h:Wq q→p:=by intro hq;refine Bd (f:=32) (vals:= #[.int .i64 30,.string ⟨#[]⟩,.slice (some ⟨bHS3.heap.size,0,none⟩) 1 1]) rfl _ rfl qh (TV _ _ _ _ _ _) ?_;exact hq.out):p:=h c
theorem jxe{p:Prop}(h:p:=by
 go_wp2_with fail
 refine HA.1.mono ?_;rintro r w' ⟨rfl,rfl⟩
 go_wp2_with fail
 go_ret2
 exact Qd):p:=h
theorem zxe{p:Prop}(h:p:=by
 simp only [It,Option.bind_eq_some_iff] at he;obtain ⟨⟨i,d1⟩,h1,h2⟩:=he;exact (h.of h1).use h2):p:=h
theorem qwe{p:Prop}(h:p:=by
 clear HB;intro _ _ _ _ _ _ _ _ _ HB
 go_wp2_with fail
 refine HB.sn3 jg zb zi ?_;clear HB;intro _ HB;exact DG):p:=h
theorem jwe{p:Prop}(h:p:=by
 have q0:=Aa rq 0;have q1:=Aa rq 1;have q2:=Aa rq 2;simp at q0 q1 q2;exact qxc):p:=h
theorem zwe{p:Prop}(h:p:=by
 simp only [It,Option.bind_eq_some_iff] at he;obtain ⟨⟨i,d1⟩,h1,h2⟩:=he;exact h.use (Xh h1) h2 hz):p:=h
theorem qve{p:Prop}(h:p:=by
 cases gk with
 |zero=>omega
 |succ f=>
  go_wp2_with fail
  go_roundg f
  case measure=>omega
  case rel=>exact zcc):p:=h
theorem jve{p:Prop}(h:p:=by
 rw [World.cell?_of_block (w:=K.w0) (a:=⟨g,o+i*9+j,none⟩) (h.keep.block g hg qg),Nat.add_assoc];exact hc j u hj):p:=h
theorem zve{p:Prop}(h:p:=by
 rw [World.cell?_of_block (w:=K.w0) (a:=⟨g,o+i*8+j,none⟩) (h.keep.block g hg qg),Nat.add_assoc];exact hc j u hj):p:=h
theorem que{p:Prop}(h:p:=by
 simp only [It,Option.bind_eq_some_iff] at he;obtain ⟨⟨i,d1⟩,h1,h2⟩:=he;exact h.use (Gp h1) (Ln h1) h2):p:=h
theorem jue{p:Prop}(h:p:=by
 clear hb hq;refine EY ?_;rw [HA.1];clear HA hsz e0 e9 e13 e14 HSw;refine Ej ?_
 go_wp2_with fail
 go_meet
 case rel=>exact zxc):p:=h
theorem zue{p:Prop}(h:p:=by
 clear hm heq
 cases gk with
 |zero=>omega
 |succ f=>
  go_wp2_with fail
  go_roundg f
  case measure=>omega
  case rel=>exact qbc):p:=h
theorem qte{p:Prop}(h:p:=by
 go_wp2_with fail
 refine Mp ?_;clear HB;intro _ _ _ _ _ _ _ _ _ HB
 go_wp2_with fail
 refine MQ ?_;clear HB;intro _ HB;exact DG):p:=h
theorem jte{p:Prop}(h:p:=by
 clear HB;intro _ q hi ht HB
 go_wp2_with fail
 refine HB.n0 ?_;clear hi ht HB;intro _ HB;obtain ⟨l_R,xx⟩:=Bv HB.res;exact YQ):p:=h
theorem zte{p:Prop}(h:p:=by
 go_wp2_with fail
 refine WD ?_;rintro r w8 ⟨rfl,hd,hs⟩
 go_wp2_with fail
 go_roundg f'
 case measure=>omega
 case rel=>exact jxc):p:=h
theorem qse{p:Prop}(h:p:=by
 split at h
 ·rename_i hc;rw [if_pos hc] at h0;cases h0
 simpa using h):p:=h
theorem jse{p:Prop}(h:p:=by
 simp only [It,Option.bind_eq_some_iff] at he;obtain ⟨⟨i,d1⟩,h1,h2⟩:=he;exact h.use (Gp h1) h2 fun _=>Int.natCast_nonneg _):p:=h
theorem zse{p:Prop}(h:p:=by
 clear HB;intro _ _ _ _ _ _ _ _ _ HB
 go_wp2_with fail
 refine IJ ?_;exact LM):p:=h
theorem qre{p:Prop}(h:p:=by
 refine HB.onn jh ?_;clear HB;intro _ q hi HB
 go_wp2_with fail
 refine HB.num ?_;clear HB;intro _ _ HB
 go_wp2_with fail
 refine MQ ?_;exact LM):p:=h
theorem zre{p:Prop}(h:p:=by
 generalize hv:Value.slice a kids.length cap=v at hs
 cases hs with
 |nil=>simp at hi
 |some hS hg hr=>injection hv with e1;exact ⟨_,_,e1,hg,hr⟩):p:=h
theorem qqe{p:Prop}(h:p:=by
 by_cases h0:st.e=0
 ·rw [if_pos h0] at h;simp only [Option.bind_eq_bind,Option.bind_eq_some_iff] at h;exact .inr ⟨h0,h⟩
 rw [if_neg h0] at h;exact qzb):p:=h
theorem jqe{p:Prop}(h:p:=by
 go_enter Tryz.func101,Tryz.ntmps101
 go_wp2_with fail
 refine (Fl Vj _ zi w).mono ?_;rintro e w' ⟨rfl,rfl⟩;rw [hB]
 go_wp2_with fail
 go_ret
 exact Qd):p:=h
theorem zqe{p:Prop}(h:p:=by
 go_enter Tryz.func101,Tryz.ntmps101
 go_wp2_with fail
 refine (Fl AK _ zi w).mono ?_;rintro e w' ⟨rfl,rfl⟩;rw [hA]
 go_wp2_with fail
 go_ret
 exact Qd):p:=h
theorem qpe{p:Prop}(h:p:=by
 clear HB;intro _ _ _ _ _ _ _ _ _ HB
 go_wp2_with fail
 refine HB.sn3 jg zb zi ?_;exact LM):p:=h
theorem jpe{p:Prop}(h:p:=by
 rw [hd];clear hd
 go_enter Tryz.func123,Tryz.ntmps123
 go_wp2_with fail
 go_ret
 exact Qd):p:=h
theorem zpe{p:Prop}(h:p:=by
 go_region
 all_goals
  go_wp2_with fail
  go_meet
  case rel=>exact ⟨rfl,rfl,jg,(ze rR)⟩):p:=h
theorem qoe{p:Prop}(h:p:=by
 obtain ⟨es,k,h1,h2⟩:=h;exact ⟨es,k,hk.at h1 hb,h2⟩):p:=h
theorem joe{p:Prop}(h:p:=by
 cases Dl (Bp st a) a with
 |none=>rfl
 |some ra=>
  cases Dl (Bp st a) p with
  |none=>rfl
  |some rb=>simp only [Option.bind_some,Option.map_some];split<;>rfl):p:=h
theorem zoe{p:Prop}(h:p:=by
 unfold Jx at hu;split at hu
 ·cases hu;intro v hv
  rcases List.mem_append.1 hv with hv|hv
  ·rw [h1] at hv;exact h v hv
  rw [List.mem_singleton.1 hv];exact h0
 cases hu):p:=h
theorem qne{p:Prop}(h:p:=by
 rw [Do,Option.bind_eq_some_iff] at he;obtain ⟨s,h1,h2⟩:=he;exact (h.ev h1).evs h2):p:=h
theorem jne{p:Prop}(h:p:=by
 go_enter Tryz.func131,Tryz.ntmps131
 go_wp2_with fail
 go_ret
 exact ⟨rfl,Ac.alloc [] w _⟩):p:=h
theorem qme{p:Prop}(h:p:=by
 have:(e.key,e.val)∈es.map (fun e=>(e.key,e.val)):=List.mem_map.2 ⟨e,hem,rfl⟩;rw [h2.1] at this;obtain ⟨x,_,hx⟩:=List.mem_map.1 this;exact (Prod.mk.inj hx).2.symm):p:=h
theorem zme{p:Prop}(h:p:=by
 go_wp2_with fail
 refine HB.nod (h1 _ _ HB.here jh) ?_;clear HB;intro _ _ _ _ _ _ _ _ _ HB;exact DG):p:=h
theorem jle{p:Prop}(h:p:=by
 go_enter Tryz.func86,Tryz.ntmps86
 go_upto_region 13 with fail
 refine zec ?_;rintro wq ⟨hka,hba⟩;have HB:=zh hba;have HS:=zh (KT.of0 (ts:=JK) hka);have HD:=zh (HD0.1.kp0 hka);clear hka hba;exact dGa):p:=h
theorem zle{p:Prop}(h:p:=by
 obtain ⟨pa,pc,b0,b1,b2,b3,b4,rfl,hp,hn⟩:=h;obtain ⟨bt,bm,ba,bl,bc,br,bi,hv,-,-⟩:=hn.shape;simp at hv;obtain ⟨rfl,rfl,rfl,rfl,rfl⟩:=hv;exact ⟨_,_,_,_,_,_,_,_,_,rfl⟩):p:=h
theorem qke{p:Prop}(h:p:=by
 go_enter Tryz.func99,Tryz.ntmps99
 go_wp2_with fail
 refine wp_loop_rounds 1 ?_;rw [rounds_succ]
 go_wp2_with fail
 refine (BF s i hs w).mono ?_;rintro r w' ⟨rfl,rfl⟩;rw [hd]
 go_wp2_with fail
 go_ret
 exact Qd):p:=h
theorem jke{p:Prop}(h:p:=by
 subst hh
 go_enter Tryz.func86,Tryz.ntmps86
 obtain ⟨l_c,c0,c1,c2,c3,c4,c5,c6,c7,c8,c9,y0,y1,y2,y3,y4,y5,y6,y7,y8,y9⟩:=Ke HD0.1.row;clear c0 c1 c2 c3 c4 c5 c6 c8 c9 y0 y1 y2 y3 y4 y5 y6 y8 y9
 go_upto_region 6 with fail
 exact Aaz):p:=h
theorem zke{p:Prop}(h:p:=by
 go_enter Tryz.func101,Tryz.ntmps101
 go_wp2_with fail
 refine (Fl AK _ zi w).mono ?_;rintro e w' ⟨rfl,rfl⟩;rw [hA]
 go_wp2_with fail
 refine (Fl Vj _ zi _).mono ?_;rintro e w' ⟨rfl,rfl⟩;rw [hB]
 go_wp2_with fail
 go_ret
 exact Qd):p:=h
theorem qje{p:Prop}(h:p:=by
 have hf:=hK.find w k l;unfold Ma;simp only [Instr.lookup,Sem.run_bind,run_underlying hT,MapKept.run_getObj_map hb,hK.check,Result.andThen]
 cases h:Ei k l 0 with
 |none=>rw [h] at hf;simp [hz,hf,Result.andThen]
 |some x=>rw [h] at hf;simp [hf]):p:=h
theorem YZ{p:Prop}(h:p:=by
 refine PE ?_;clear HB;intro _ _ _ _ _ _ _ _ _ HB;exact DG):p:=h
theorem zje{p:Prop}(h:p:=by
 have h:(Tryz.prog.info? 9).map (fun i=>(i.zero,i.size,i.bytes))=some (some (.string ⟨#[]⟩),1,16):=by kernel_rfl
 cases hi:Tryz.prog.info? 9 with
 |none=>rw [hi] at h;cases h
 |some i=>rw [hi] at h;simp at h;exact ⟨i,rfl,h.1,h.2.1,h.2.2⟩):p:=h
theorem jie{p:Prop}(h:p:=by
 simp only [It,Option.bind_eq_some_iff] at h;obtain ⟨⟨i,d1⟩,h1,h2⟩:=h;rw [hus h2];exact ⟨(hof (Gb h1)).1,fun _ q=>by cases q⟩):p:=h
theorem ZD{p:Prop}(h:p:=by
 refine zwb ?_;clear HB;intro _ s HB
 go_wp2_with fail
 refine HB.n0 ?_;exact LM):p:=h
theorem ZP{p:Prop}(h:p:=by
 rw [hz];clear hz
 go_enter Tryz.func92,Tryz.ntmps92
 go_wp2_with fail
 go_ret
 exact Qd):p:=h
theorem jhe{p:Prop}(h:p:=by
 by_cases hfn:st.loops=0
 ·rw [if_pos hfn] at hpre;obtain rfl:Al st re im 32=st1:=by simpa using hpre
  have d0:(st.loops==0)=true:=by simp [hfn]
  clear hpre hfn;exact jqd
 rw [if_neg hfn] at hpre;obtain rfl:st=st1:=by simpa using hpre
 have d0:(st.loops==0)=false:=beq_false_of_ne hfn;clear hpre;exact YO):p:=h
theorem qge{p:Prop}(h:p:=by
 go_enter Tryz.func99,Tryz.ntmps99
 go_wp2_with fail
 refine wp_loop_rounds 2 ?_;rw [rounds_succ]
 go_wp2_with fail
 refine (BF s i hs w).mono ?_;rintro r w' ⟨rfl,rfl⟩;rw [hd]
 go_wp2_with fail
 rw [rounds_succ]
 go_wp2_with fail
 refine (PZ s i hs w').mono ?_;rintro r w'' ⟨rfl,rfl⟩;rw [hd1]
 go_wp2_with fail
 go_ret
 exact Qd):p:=h
theorem zge{p:Prop}(h:p:=by
 have q0:=Aa cw7_R 0;have q1:=Aa cw7_R 1;have q2:=Aa cw7_R 2;have q3:=Aa cw7_R 3;have q4:=Aa cw7_R 4;simp at q0 q1 q2 q3 q4;exact UK):p:=h
theorem WU{p:Prop}(h:p:=by
 rw [List.getElem?_take] at hj2
 split at hj2
 ·simpa using hj2
 cases hj2):p:=h
theorem XH{p:Prop}(h:p:=by
 clear HB;intro _ _ _ _ _ _ _ _ _ HB
 go_wp2_with fail
 refine MQ ?_;exact LM):p:=h
theorem qee{p:Prop}(h:p:=by
 rintro w74 ⟨Kw74,cw74_kb⟩;have Rw74_U:=zh (Kw74.at Re73_U.1 (by simp [n_U_kb]));have HCw74:=zh (HCe73.1.kp Kw74 (by simp [o0_kb]) (by simp [n_c_kb]) (by simp [n_mf_kb]) (by simp [n_ms_kb]) (by simp [n_mn_kb]) (by simp [(off_kb).2.2.2]));have HSw74:=zh (HSe73.1.loc Kw74 jbb);have HKw74:=zh (HKe73.1.trans Kw74 jbb);have Rw74_kb:=zh cw74_kb;clear Kw74 cw74_kb l_c l_U l_mf l_ms l_mn l_kb Re73_U HCe73 HSe73 HKe73 HKkbe73;exact ztc):p:=h
theorem jee{p:Prop}(h:p:=by
 rintro r e32 ⟨rfl,hc,hs⟩;have off2_F:=hs.off (Ad Rw31_F.1) off_F;have Re32_F:=zh (hs.at Rw31_F.1 off_F);have off_F':=off2_F;have HCe32:=zh hc;have HSe32:=zh (HSw31.1.trans hs);clear Rw31_F off_F HCw31 HSw31 hc hs;have off_F:=off_F';clear off_F' off2_F;obtain ⟨l_c,l_mf,l_ms,l_mn⟩:=HCe32.1.lt;have l_F:=Ad Re32_F.1
 go_wp2_with fail
 go_meet
 case rel=>exact ⟨by rw [HST.1];exact HCe32.1,HSe32.1,Re32_F.1⟩):p:=h
theorem YH{p:Prop}(h:p:=by
 clear HB;intro _ _ _ _ _ _ _ _ _ HB
 go_wp2_with fail
 refine IJ ?_;clear HB;intro _ HB;exact DG):p:=h
theorem RS{p:Prop}(h:p:=by
 refine jzb ?_;clear HB;intro _ _ _ _ _ _ _ _ _ HB;exact DG):p:=h
theorem jde{p:Prop}(h:p:=by
 rintro w55 ⟨Kw55,cw55_X⟩;have Rw55_R:=zh (Kw55.at Re54_R.1 (by simp [n_R_X]));have HKw55:=zh (HKe54.1.trans Kw55 (by simp [o_X]));have HKkbw55:=zh (HKkbe54.1.keep Kw55 (by simp [n_kb_X]));have HOw55:=zh (HOe54.1.kp Kw55 (by simp [b_X]));have HRw55:=zh (HRe54.1.keep Kw55 (by simp [n_mn_X]) (by simp [n_it_X]));have Rw55_X:=zh cw55_X;clear Kw55 cw55_X l_c l_R l_X xX l_mn l_kb l_it Re54_R HKe54 HKkbe54 HOe54 HRe54 Re54_X;have hln:=HLN.1;subst hln;exact qyc):p:=h
theorem RV{p:Prop}(h:p:=by
 go_region
 all_goals
  go_wp2_with fail
  go_meet
  case rel=>exact qac):p:=h
theorem qce{p:Prop}(h:p:=by
 have q1:=Aa H.1.row 1;simp at q1;have hlt0:=Ad H.1.row
 go_wp2_with fail
 refine MV ?_;rintro r w' ⟨rfl,hw'⟩;rw [hw'];clear hw'
 go_wp2_with fail
 refine RU ?_;rintro r w1 ⟨rfl,hk1⟩;clear q1 hlt0;have HP1:=zh (H.1.keep hk1);have HK1:=zh hk1;clear hk1
 go_wp2_with ((with_reducible show wpList _ _ _ (Oper.mk none (.store 90 _ _) _ _ _ _::_) _ _);refine Oa 90 w1.heap.size 0 _ (Ca _ _) rfl (.agg #[.int .i64 kd,.string tx,.float .f64 nm,.int .i64 fr,.int .i64 te]) rfl qh jj ji ?_)
 exact zsd):p:=h
theorem jce{p:Prop}(h:p:=by
 go_wp2_with fail
 refine (Je HB.fix HB.mak jh 2 jh jh).mono ?_;rintro r W ⟨z,h0,h1,rfl,hm,hk⟩;replace HB:=HB.call hm hk;clear hm hk;clear h0 h1
 by_cases hy0:z=0
 ·subst hy0
  go_wp2_with fail
  refine Ap (v:= .string (⟨#[97]⟩)) (fun U=>Ac [] W U) jg (fun U hU=> ?_) rfl (fun U hU=> ?_)
  ·exact Le
  exact YF
 have hy:(z==0)=false:=beq_false_of_ne hy0
 go_wp2_with fail
 refine Ap (v:= .string (⟨#[98]⟩)) (fun U=>Ac [] W U) jg (fun U hU=> ?_) rfl (fun U hU=> ?_)
 ·exact Le
 exact YF):p:=h
theorem zce{p:Prop}(h:p:=by
 intro va' wa fl hfl hk2 hown;obtain ⟨aa,cc,rfl⟩:=hown.slice;have HPa:=zh (HPq.1.kp hk2 (fun x hx=>by have:=hfl x hx;omega));have HGa:=zh (hk2.at HGq.1 (fun hx=>by have:=hfl _ hx;have:=HGE.1;omega));have HOa:=zh hown;clear hk hr hk2 hown hfl HPq HGq;clear lG gg lR z0 z1 z2 z3 z4 z5 z6 z7 z8 f0 f1 f2 f3 f4 f5 f6 f7 f8;obtain ⟨lG,gg⟩:=Ki HGa.1
 go_wp2_with fail
 go_roundg (gk -1)
 case measure=>omega
 have e2:=Nat.succ_mul m 24550;simp only [Nat.succ_eq_add_one] at e2;refine qfd ?_;rintro wz ⟨hk,hr⟩;exact zgd):p:=h
theorem YJ{p:Prop}(h:p:=by
 have e1:(⟨G,0,none⟩:Addr).add j=⟨G,j,none⟩:=by simp [Addr.add];intro h;rw [h]
 rw [e1,this];simpa using hj):p:=h
theorem qae{p:Prop}(h:p:=by
 refine XI ?_;refine AllReadyH.cons rfl (fun KQ hK=> ?_) AllReadyH.nil;refine zhc ?_;rintro v2 w2 hr2 hk2' hv2;replace hk2':Ac [] wb w2:=hk2';have HK2:=zh (HKd.1.trans hk2' qg);refine hK.out _ _ trivial (fun _=> ?_);clear hK hk2' hv2;refine IK ?_;refine YU ?_;refine AllReadyH.cons rfl (fun KQ hK=> ?_) AllReadyH.nil;obtain ⟨-,⟨rfl,h0⟩|⟨g2,cp2,cur2,rfl,hb2,hh2,hle2,hmx2,hcz2,htk2⟩⟩:=id hr2
 ·omega
 have hlc:(1:Int)≤(cp2:Int):=by omega
 go_simp
 refine hK.out _ _ trivial (fun _=> ?_);clear hK;refine IK ?_;refine zgc ?_;refine AU ?_;refine EY ?_;exact pn6):p:=h
theorem jae{p:Prop}(h:p:=by
 obtain ⟨k,rfl,hk1,hk2,st2,T2,ua2,uc2,hcf,hc,hs,hB,off_B⟩:=hrel;have HCr:=zh hc;have HSr:=zh hs;have RB:=zh hB;clear hc hs hB
 by_cases hlt:k<kids.length
 ·obtain ⟨g3,o3,fm3,na3,nc3,hna,kc0,kc1,kc2,kc3,kc4,hkn⟩:=CK.kid HCr.1 HKD.1 hlt;subst hna;have lg3:g3<wr.heap.size:=Cd kc0;rw [List.drop_eq_getElem_cons hlt,Ga] at hcf;generalize kids[k]=kk at*
  simp only [Option.bind_eq_bind,Option.bind_eq_some_iff] at hcf;obtain ⟨s3,hr,hcf⟩:=hcf
  cases gk with
  |zero=>omega
  |succ f=>
   rw [Qv,if_neg qg] at hr;exact qnd
 have hke:k=kids.length:=by omega
 exact jsd):p:=h
theorem qzd{p:Prop}(h:p:=by
 rintro w71 ⟨Kw71,cw71_U⟩;have ⟨n_c_U,n_U_c⟩:=Ai l_c;have ⟨n_mf_U,n_U_mf⟩:=Ai l_mf;have ⟨n_ms_U,n_U_ms⟩:=Ai l_ms;have ⟨n_mn_U,n_U_mn⟩:=Ai l_mn;have ⟨n_kb_U,n_U_kb⟩:=Ai l_kb;have o_U:w.heap.size≤wr.heap.size:=HSwr.1.size;have off_U:Fu K T (wr.heap.size):=Ao HCwr.1 (Nat.le_refl _);have o0_U:K.w0.heap.size≤wr.heap.size:=Nat.le_trans HCwr.1.keep.size (Nat.le_refl _);have HCw71:=zh (HCwr.1.kp0 Kw71);have HSw71:=zh (HSwr.1.loc Kw71 qg);have HKw71:=zh (HKwr.1.trans Kw71 qg);have HKkbw71:=zh (HKBwr.1.keep Kw71 qg);have Rw71_U:=zh cw71_U;clear Kw71 cw71_U l_c l_mf l_ms l_mn l_kb HCwr HSwr HKwr HKBwr;exact qsc):p:=h
theorem XE{p:Prop}(h:p:=by
 obtain ⟨l_c,l_mf,l_ms,l_mn⟩:=HCw1.1.lt;obtain ⟨l_B,xB⟩:=Bv Rw1_B.1
 go_wp2_with fail
 go_meet
 case rel=>exact qqc):p:=h
theorem zzd{p:Prop}(h:p:=by
 rintro r e3 ⟨T3,ua3,uc3,rfl,hc,hs⟩;have off2_B:=hs.off (Ad Rw2_B.1) off_B;have Re3_B:=zh (hs.at Rw2_B.1 off_B);have off_B':=off2_B;have HCe3:=zh hc;have HSe3:=zh (HSw2.1.trans hs);clear Rw2_B off_B HCw2 HSw2 hc hs;have off_B:=off_B';clear off_B' off2_B;obtain ⟨l_c,l_mf,l_ms,l_mn⟩:=HCe3.1.lt;have l_B:=Ad Re3_B.1
 go_wp2_with fail
 refine Ap (v:= .tuple #[]) (fun W=>Ac [] e3 W) jg (fun w4 hW=> ?_) rfl (fun w4 hW=> ?_)
 ·have Kw4:Ac [] e3 w4:=hW;exact Le
 have Kw4:Ac [] e3 w4:=hW;have Rw4_B:=zh (Kw4.at Re3_B.1 qg);have HCw4:=zh (HCe3.1.kp0 Kw4);have HSw4:=zh (HSe3.1.loc Kw4 qg);clear Kw4 l_c l_B l_mf l_ms l_mn Re3_B HCe3 HSe3;exact ⟨_,_,_,rfl,HCw4.1,HSw4.1⟩):p:=h
theorem KW{p:Prop}(h:p:=by
 go_enter Tryz.func117,Tryz.ntmps117
 go_wp2_with fail
 go_ret2
 exact Qd):p:=h
theorem jyd{p:Prop}(h:p:=by
 have HCC:=zh hc;clear hc hkd;have HC0:=zh h;have HS0:=zh (Ak.refl K T w);clear h
 go_enter Tryz.func43,Tryz.ntmps43
 obtain ⟨l_c,l_mf,l_ms,l_mn⟩:=HC0.1.lt
 go_wp2_with fail
 refine zpc ?_;rintro w1 ⟨Kw1,cw1_B⟩;have ⟨n_c_B,n_B_c⟩:=Ai l_c;have ⟨n_mf_B,n_B_mf⟩:=Ai l_mf;have ⟨n_ms_B,n_B_ms⟩:=Ai l_ms;have ⟨n_mn_B,n_B_mn⟩:=Ai l_mn;have o_B:w.heap.size≤w.heap.size:=Nat.le_refl _;have off_B:Fu K T (w.heap.size):=Ao HC0.1 (Nat.le_refl _);have o0_B:K.w0.heap.size≤w.heap.size:=Nat.le_trans HC0.1.keep.size (Nat.le_refl _);have HCw1:=zh (HC0.1.kp0 Kw1);have HSw1:=zh (HS0.1.loc Kw1 qg);have Rw1_B:=zh cw1_B;clear Kw1 cw1_B l_c l_mf l_ms l_mn HC0 HS0;refine (HCC.1 _ HCw1.1).mono ?_;exact qqd):p:=h
theorem GZ{p:Prop}(h:p:=by
 go_enter Tryz.func12,Tryz.ntmps12
 go_wp2_with fail
 go_ret
 exact Qd):p:=h
theorem YO{p:Prop}(h:p:=by
 obtain ⟨l_c,xc⟩:=Cp HCw1.1.row;obtain ⟨-,l_mf,l_ms,l_mn⟩:=HCw1.1.lt;have l_B:=Ad Rw1_B.1
 go_wp2_with fail
 go_meet
 case rel=>exact qdd):p:=h
theorem jxd{p:Prop}(h:p:=by
 intro w2 hs2;have x0:=Aa hs2.row 0;have x1:=Aa hs2.row 1;have x2:=Aa hs2.row 2;have x3:=Aa hs2.row 3;have x4:=Aa hs2.row 4;simp at x0 x1 x2 x3 x4;have hsz2:=HK1.1.size;have HTR2:=zh hs2.row;have hst2:Ac [] w1 w2:=(Ac.alloc [] w1 (By 0 ⟨#[]⟩ 0 0 0)).trans hs2.keeps qg;have HST2:=zh hst2;have HK2:=zh (HK1.1.trans hst2 qg);clear hs2 hst2
 go_wp2_with fail
 go_ret
 exact ⟨rfl,HK2.1⟩):p:=h
theorem zxd{p:Prop}(h:p:=by
 go_wp2_with fail
 refine YS ?_;rintro r w1 ⟨v,rfl,hn',hp1,hk1⟩;have hn:Au w1 (fun g=>w.heap.size<g) n v:=hn'.keep (Ac.refl [] w1) qg (fun x hx=>by have h2:=hx;simp at h2;omega);clear hn';have hq1:=hk1.at (Ca w (Fo 0 ⟨#[]⟩ 0 (.slice none 0 0) 0 0)) qi;have hkw:Ac [p] w w1:=(Ac.alloc [p] w _).trans hk1 (fun _ h=> .inl h);have hsz:w.heap.size<w1.heap.size:=by have:=hk1.size;simp at this;omega
 have h14:=hp1.p;obtain ⟨tx,nm,a,l,cap,re,im,rfl,-,-⟩:=hn.shape;generalize hkd:n.kind=kd at*
 have hka:=Ac.alloc [] w1 (Fo kd tx nm (.slice a l cap) re im);have HN1:=zh (hn.keep0 hka);have HP1:=zh (hp1.keep hka);have HK1:=zh (hkw.trans hka qg);have HQ1:=zh (hka.at hq1 qg);have HB1:=zh (Ca w1 (Fo kd tx nm (.slice a l cap) re im));clear hn hp1 hkw hk1 hq1 hka
 go_wp2_with fail
 generalize w1.alloc (Fo kd tx nm (.slice a l cap) re im)=w2 at*
 refine zlb ?_;exact jmd):p:=h
theorem qwd{p:Prop}(h:p:=by
 have HC0:=zh h;have HS0:=zh (Ak.refl K T w);clear h
 go_enter Tryz.func77,Tryz.ntmps77
 obtain ⟨l_c,l_mf,l_ms,l_mn⟩:=HC0.1.lt
 go_wp2_with fail
 refine zpc ?_;rintro w1 ⟨Kw1,cw1_B⟩;have ⟨n_c_B,n_B_c⟩:=Ai l_c;have ⟨n_mf_B,n_B_mf⟩:=Ai l_mf;have ⟨n_ms_B,n_B_ms⟩:=Ai l_ms;have ⟨n_mn_B,n_B_mn⟩:=Ai l_mn;have o_B:w.heap.size≤w.heap.size:=Nat.le_refl _;have off_B:Fu K T (w.heap.size):=Ao HC0.1 (Nat.le_refl _);have o0_B:K.w0.heap.size≤w.heap.size:=Nat.le_trans HC0.1.keep.size (Nat.le_refl _);have HCw1:=zh (HC0.1.kp0 Kw1);have HSw1:=zh (HS0.1.loc Kw1 qg);have Rw1_B:=zh cw1_B;clear Kw1 cw1_B l_c l_mf l_ms l_mn HC0 HS0;refine (Sz hcn _).mono ?_;rintro r w' ⟨rfl,hw'⟩;rw [hw'];clear hw';obtain ⟨l_c,l_mf,l_ms,l_mn⟩:=HCw1.1.lt;obtain ⟨l_B,xB⟩:=Bv Rw1_B.1
 go_wp2_with fail
 clear l_c l_B xB l_mf l_ms l_mn;refine (Hv hK HCw1.1 re im 31).mono ?_;exact qqd):p:=h
theorem jwd{p:Prop}(h:p:=by
 go_wp2_with fail
 refine (Je HB.fix HB.mak jh 12 jh jh).mono ?_;rintro r W ⟨z,h0,h1,rfl,hm,hk⟩;replace HB:=HB.call hm hk;clear hm hk;clear h0 h1
 by_cases hy0:z=0
 ·subst hy0
  go_wp2_with fail
  refine (Qo HB.fix HB.mak jh 11 jh jh).mono ?_;rintro r W ⟨q,hq,rfl,hm,hk⟩;replace HB:=HB.call hm hk;clear hm hk;have ht:=Lq.tab HB.fix HB.mak (g:=7) (j:=q) jh hq;have hi:(q:Int)<11:=by omega
  go_wp2_with fail
  clear ht hi;refine Ap (v:= .string (M.tb 7 q)) (fun U=>Ac [] W U) jg (fun U hU=> ?_) rfl (fun U hU=> ?_)
  ·exact Le
  exact YF
 have hy:(z==0)=false:=beq_false_of_ne hy0
 go_wp2_with fail
 refine (Qo HB.fix HB.mak jh 4 jh jh).mono ?_;rintro r W ⟨q,hq,rfl,hm,hk⟩;replace HB:=HB.call hm hk;clear hm hk;have ht:=Lq.tab HB.fix HB.mak (g:=6) (j:=q) jh hq;have hi:(q:Int)<4:=by omega
 go_wp2_with fail
 clear ht hi;refine Ap (v:= .string (M.tb 6 q)) (fun U=>Ac [] W U) jg (fun U hU=> ?_) rfl (fun U hU=> ?_)
 ·exact Le
 exact YF):p:=h
theorem zwd{p:Prop}(h:p:=by
 have hq:(kk.kind !=4)=false∨((kk.kind !=4)=true∧(kk.kind !=5)=false)∨((kk.kind !=4)=true∧(kk.kind !=5)=true∧(kk.kind !=6)=false):=OT hlv;clear hs1 hlv
 rcases hq with q4'|⟨q4',q5'⟩|⟨q4',q5',q6'⟩
 all_goals
  obtain ⟨l_c,l_mf,l_ms,l_mn⟩:=HCw1.1.lt;obtain ⟨l_B,xB⟩:=Bv Rw1_B.1
  go_wp2_with fail
  go_meet
  refine zqc ?_;rintro w21 ⟨Kw21,cw21_Kd⟩;have ⟨n_c_Kd,n_Kd_c⟩:=Ai l_c;have ⟨n_mf_Kd,n_Kd_mf⟩:=Ai l_mf;have ⟨n_ms_Kd,n_Kd_ms⟩:=Ai l_ms;have ⟨n_mn_Kd,n_Kd_mn⟩:=Ai l_mn;have ⟨n_B_Kd,n_Kd_B⟩:=Ai l_B;have o_Kd:w.heap.size≤w1.heap.size:=HSw1.1.size;have off_Kd:Fu K T (w1.heap.size):=Ao HCw1.1 (Nat.le_refl _);have o0_Kd:K.w0.heap.size≤w1.heap.size:=Nat.le_trans HCw1.1.keep.size (Nat.le_refl _);have Rw21_B:=zh (Kw21.at Rw1_B.1 qg);have HCw21:=zh (HCw1.1.kp0 Kw21);have HSw21:=zh (HSw1.1.loc Kw21 qg);have Rw21_Kd:=zh cw21_Kd;clear Kw21 cw21_Kd l_c l_B xB l_mf l_ms l_mn Rw1_B HCw1 HSw1;exact jqc):p:=h
theorem qvd{p:Prop}(h:p:=by
 go_wp2_with fail
 refine Ap (v:= .tuple #[.agg #[.slice none 0 0,.slice none 0 0,.slice none 0 0],.complex .f64 st2.re st2.im,.int .i64 st2.e]) (fun W=>Ac [] w8 W) jg (fun W hW=> ?_) rfl (fun W hW=> ?_)
 ·have hW:Ac [] w8 W:=hW;have rq:=hW.at h8.1 qg;have q0:=Aa rq 0;have q1:=Aa rq 1;have q2:=Aa rq 2;simp at q0 q1 q2;exact qxc
 have hW:Ac [] w8 W:=hW;have hrest:=HRS.1;rw [Wd,if_pos h0] at hrest;simp only [Option.some.injEq] at hrest;subst hrest;exact zed):p:=h
theorem YW{p:Prop}(h:p:=by
 have ⟨n_p_T,n_T_p⟩:=Ai l_p;have o_T:w.heap.size≤e1.heap.size:=HKe1.1.size;have g_T:14<e1.heap.size:=Nat.lt_trans g_p l_p;have HKw2:=zh (HKe1.1.trans Kw2 qg);have HPw2:=zh (HPe1.1.keep Kw2);have Rw2_T:=zh cw2_T;clear Kw2 cw2_T l_p HKe1 HPe1;exact zrb):p:=h
theorem zvd{p:Prop}(h:p:=by
 intro w2 hs2;have x0:=Aa hs2.row 0;have x1:=Aa hs2.row 1;have x2:=Aa hs2.row 2;have x3:=Aa hs2.row 3;have x4:=Aa hs2.row 4;simp at x0 x1 x2 x3 x4;have hsz2:=HK1.1.size;have HTR2:=zh hs2.row;have hst2:Ac [] w1 w2:=(Ac.alloc [] w1 (By 0 ⟨#[]⟩ 0 0 0)).trans hs2.keeps qg;have HST2:=zh hst2;have HK2:=zh (HK1.1.trans hst2 qg);clear hs2 hst2;have HP2:=zh (HP1.1.keep HST2.1);have c0:=Aa HP2.1.row 0;have f0:=Ab HP2.1.row 0;have c1:=Aa HP2.1.row 1;have f1:=Ab HP2.1.row 1;have c2:=Aa HP2.1.row 2;have f2:=Ab HP2.1.row 2;have c3:=Aa HP2.1.row 3;have f3:=Ab HP2.1.row 3;have c4:=Aa HP2.1.row 4;have f4:=Ab HP2.1.row 4;have c5:=Aa HP2.1.row 5;have f5:=Ab HP2.1.row 5;simp at c0 c1 c2 c3 c4 c5;have hlt:=Ad HP2.1.row
 go_wp2_with fail
 go_roundg f
 case measure=>omega
 have hrow:(w2.setCell ⟨p,1,none⟩ (.int .i64 te)).heap[p]? =some (LD s ⟨te,opn,ng⟩):=by
  have:=(Di (i:=1) (u:= .int .i64 te) HP2.1.row)
  simpa using this
 have hkp:Ac [p] w2 (w2.setCell ⟨p,1,none⟩ (.int .i64 te)):=(Ac.trans (Ac.refl [p] w2) (Ac.setCell [p] _ _ _ qg) qg);exact jjb):p:=h
theorem qud{p:Prop}(h:p:=by
 rintro r e51 ⟨rfl,hk⟩;have Re51_R:=zh (hk.at RR.1 qg);have Re51_B:=zh (hk.at RB.1 qg);have HKe51:=zh (HKr.1.trans hk qg);have HPe51:=zh (HPr.1.keep hk);have ne51:=zh (HN1.1.kp hk qg);have us_ne51:=Nat.le_trans us_n hk.size;clear hk RR RB HKr HPr HN1 us_n;have l_p:=Ad HPe51.1.row;obtain ⟨l_R,xR⟩:=Bv Re51_R.1;obtain ⟨l_B,xB⟩:=Bv Re51_B.1
 go_wp2_with fail
 refine Ap (v:= .agg #[.int .i64 n1.kind,.string nt,.float .f64 nm,.slice na nl nc,.complex .f64 nr ni]) (fun W=>Ac [w.heap.size] e51 W∧W.heap[w.heap.size]? =some (.cells #[.int .i64 n1.kind,.string nt,.float .f64 nm,.slice na nl nc,.complex .f64 nr ni] 50 (0,0))) ⟨jg,(zc Re51_R.1 l_R)⟩ (fun w52 hW=> ?_) rfl (fun w52 hW=> ?_)
 ·obtain ⟨Kw52,cw52_R⟩:=hW;have q0:=Aa cw52_R 0;have q1:=Aa cw52_R 1;have q2:=Aa cw52_R 2;have q3:=Aa cw52_R 3;have q4:=Aa cw52_R 4;simp at q0 q1 q2 q3 q4;exact UK
 obtain ⟨Kw52,cw52_R⟩:=hW;have Rw52_B:=zh (Kw52.at Re51_B.1 qx);have HKw52:=zh (HKe51.1.trans Kw52 zp);have HPw52:=zh (HPe51.1.keepN Kw52 jr zt);have nw52:=zh (ne51.1.kp Kw52 qw);have us_nw52:=Nat.le_trans us_ne51 Kw52.size;have Rw52_R:=zh cw52_R;clear Kw52 cw52_R l_p l_R xR l_B xB Re51_B HKe51 HPe51 ne51 us_ne51 Re51_R;exact ⟨_,rfl,nw52.1.to dn_n,HPw52.1,HKw52.1⟩):p:=h
theorem jud{p:Prop}(h:p:=by
 refine (Gz hK HCr.1 fu.re fu.im 28).mono ?_;rintro r e61 ⟨rfl,hc,hs⟩;have off2_F:=hs.off (Ad RFwr.1) off_F;have Re61_F:=zh (hs.at RFwr.1 off_F);have off_F':=off2_F;have HCe61:=zh hc;have HSe61:=zh (HSr.1.trans hs);clear RFwr off_F HCr HSr hc hs;have off_F:=off_F';clear off_F' off2_F;obtain ⟨l_c,xc_0,xc_1,xc_2,xc_3,xc_4,xc_5,xc_6,xc_7,xc_8,xc_9,xc_10,yc_0,yc_1,yc_2,yc_3,yc_4,yc_5,yc_6,yc_7,yc_8,yc_9,yc_10⟩:=Cp HCe61.1.row;obtain ⟨-,l_mf,l_ms,l_mn⟩:=HCe61.1.lt;have l_F:=Ad Re61_F.1;obtain ⟨es,ek,hes,hes2⟩:=HCe61.1.seen;have HEB:=zh hes;have HES:=zh hes2;clear hes hes2;have hup:(Instr.mapUpdate 67 (.map (some K.mn)) (.agg #[.int .i64 ((k:Int)+1),.string s]) (.agg #[])).run Tryz.prog e61= .ok () (mset e61 K.mn (.map (Cm Cn (Cw ((k+1,s):Ae) (.agg #[]) ek es).1) (Cw ((k+1,s):Ae) (.agg #[]) ek es).2)):=Uq (K:=K) (W:=e61) HEB.1 (k+1) s
 go_wp2_with fail
 go_roundg f2
 case measure=>omega
 refine qzc ?_;rintro w62 ⟨Kw62,cw62_mn⟩;have Rw62_F:=zh (Kw62.at Re61_F.1 (by simp [n_F_mn]));have HCw62:Hd (CK K T ua uc (Df (Al st6 fu.re fu.im 28) (k+1,s)) w62):=zh (HCe61.1.see hK (k+1,s) HES.1 Kw62 cw62_mn);have HSw62:=zh (HSe61.1.mn Kw62);have Rw62_mn:=zh cw62_mn;clear Kw62 cw62_mn l_c xc_0 xc_1 xc_2 xc_3 xc_4 xc_5 xc_6 xc_7 xc_8 xc_9 xc_10 yc_0 yc_1 yc_2 yc_3 yc_4 yc_5 yc_6 yc_7 yc_8 yc_9 yc_10 l_F l_mf l_ms l_mn Re61_F HCe61 HSe61;exact zad):p:=h
theorem zud{p:Prop}(h:p:=by
 refine (Mz HP0.1 HH0.1 zi).mono ?_;rintro r w1 ⟨rfl,hk1⟩;have HP1:=zh (HP0.1.keep hk1);have HQ1:=zh (hk1.at HQ0.1 qg);have HK1:=zh (HK0.1.trans hk1 qg);clear hk1
 go_wp2_with fail
 refine (GA HP1.1 HH1.1).mono ?_;rintro r w2 ⟨rfl,hk2⟩;have HP2:=zh (HP1.1.keep hk2);have HQ2:=zh (hk2.at HQ1.1 qg);have HK2:=zh (HK1.1.trans hk2 qg);clear hk2
 go_wp2_with fail
 refine (HS.1 _ HP2.1).mono ?_;rintro r w9 ⟨v,rfl,hn',hp9,hk9⟩;have hsz:w.heap.size<w2.heap.size:=Ad HQ2.1;have hn:Au w9 (fun g=>w.heap.size<g) n v:=hn'.keep (Ac.refl [] w9) qg (fun x hx=>Nat.lt_of_lt_of_le hsz hx);have hq3:=hk9.at HQ2.1 qi;obtain ⟨tx,nm,a,l,cap,re,im,rfl,-,-⟩:=hn.shape;generalize hkd:n.kind=kd at*
 have HN3:=zh hn;have HP3:=zh hp9;have HK3:=zh ((HK2.1.weaken (fp':= [p]) qg).trans hk9 qg);have hl3:w.heap.size<w9.heap.size:=Ad hq3;have q0:=Aa hq3 0;have q1:=Aa hq3 1;have q2:=Aa hq3 2;have q3:=Aa hq3 3;have q4:=Aa hq3 4;have qf0:=Ab hq3 0;have qf1:=Ab hq3 1;have qf2:=Ab hq3 2;have qf3:=Ab hq3 3;have qf4:=Ab hq3 4;simp at q0 q1 q2 q3 q4;clear hn hn' hp9 hk9 hq3
 go_wp2_with fail
 have t5:=OM w9 w.heap.size kd tx nm (.slice a l cap) re im;refine bodyPost_ret (v:= .agg #[.int .i64 kd,.string tx,.float .f64 nm,.slice a l cap,.complex .f64 re im]) zl rfl ⟨_,rfl, ?_, ?_, ?_⟩
 ·exact jlb
 ·exact qlb
 exact zmb):p:=h
theorem qtd{p:Prop}(h:p:=by
 go_region_law ((refine Bd (f:=62) (vals:= #[.string s,.int .i64 pos,.bool op]) rfl _ rfl qh (HN.1 _ qu) ?_;rintro v w1 ⟨rfl,hk1⟩;have hq1:=hk1.at (show _=some (By 0 ⟨#[]⟩ 0 0 0) from (by first|exact Ca w _|exact Ed (Ca w _))) qg;have hkw:Ac [] w w1:=qr;have hsz1:=hk1.size;simp at hsz1;have q0:=Aa hq1 0;have q1:=Aa hq1 1;have q2:=Aa hq1 2;have q3:=Aa hq1 3;have q4:=Aa hq1 4;have qf0:=Ab hq1 0;have qf1:=Ab hq1 1;have qf2:=Ab hq1 2;have qf3:=Ab hq1 3;have qf4:=Ab hq1 4;simp at q0 q1 q2 q3 q4;try (have hb1:=hk1.at (Ca (w.alloc (By 0 ⟨#[]⟩ 0 0 0)) (By 0 ⟨#[]⟩ 0 0 0)) qg;rw [show (w.alloc (By 0 ⟨#[]⟩ 0 0 0)).heap.size=w.heap.size+1 from by simp] at hb1;have b0:=Aa hb1 0;have b1:=Aa hb1 1;have b2:=Aa hb1 2;have b3:=Aa hb1 3;have b4:=Aa hb1 4;have bf0:=Ab hb1 0;have bf1:=Ab hb1 1;have bf2:=Ab hb1 2;have bf3:=Ab hb1 3;have bf4:=Ab hb1 4;simp at b0 b1 b2 b3 b4)))
 all_goals
  go_wp2_with fail
  go_meet
  refine ⟨_,rfl,rfl, ?_⟩
  first
   | (have t:=ZF hb1 kd tx nm fr te
      refine ⟨Nat.lt_succ_self _,t.1, ?_, ?_⟩
      ·exact t.2.1 _ _ (Nat.ne_of_lt (Nat.lt_succ_self _)) hq1
      exact t.2.2 w hkw (Nat.le_succ _))
   | (refine ⟨hsz1,Ca w1 (By kd tx nm fr te), ?_, ?_⟩
      ·exact Ed hq1
      exact Hs hkw _)):p:=h
theorem LM{p:Prop}(h:p:=by
 clear HB;intro _ HB;obtain ⟨l_R,xx⟩:=Bv HB.res;exact YQ):p:=h
theorem ztd{p:Prop}(h:p:=by
 obtain ⟨q4,q5,q6⟩:=TX hlv;have q4':(kk.kind !=4)=true:=by simp [q4]
 have q5':(kk.kind !=5)=true:=by simp [q5]
 have q6':(kk.kind !=6)=true:=by simp [q6]
 clear hs1 hlv;obtain ⟨l_c,l_mf,l_ms,l_mn⟩:=HCw1.1.lt;obtain ⟨l_B,xB⟩:=Bv Rw1_B.1
 go_wp2_with fail
 refine jpc ?_;rintro w21 ⟨Kw21,cw21_Kd⟩;have ⟨n_c_Kd,n_Kd_c⟩:=Ai l_c;have ⟨n_mf_Kd,n_Kd_mf⟩:=Ai l_mf;have ⟨n_ms_Kd,n_Kd_ms⟩:=Ai l_ms;have ⟨n_mn_Kd,n_Kd_mn⟩:=Ai l_mn;have ⟨n_B_Kd,n_Kd_B⟩:=Ai l_B;have o_Kd:w.heap.size≤w1.heap.size:=HSw1.1.size;have off_Kd:Fu K T (w1.heap.size):=Ao HCw1.1 (Nat.le_refl _);have o0_Kd:K.w0.heap.size≤w1.heap.size:=Nat.le_trans HCw1.1.keep.size (Nat.le_refl _);have Rw21_B:=zh (Kw21.at Rw1_B.1 qg);have HCw21:=zh (HCw1.1.kp0 Kw21);have HSw21:=zh (HSw1.1.loc Kw21 qg);have Rw21_Kd:=zh cw21_Kd;clear Kw21 cw21_Kd l_c l_B xB l_mf l_ms l_mn Rw1_B HCw1 HSw1;refine (Hv hK HCw21.1 kk.re kk.im 31).mono ?_;rintro r e22 ⟨T22,ua22,uc22,rfl,hc,hs⟩;have off2_B:=hs.off (Ad Rw21_B.1) off_B;have Re22_B:=zh (hs.at Rw21_B.1 off_B);have off2_Kd:=hs.off (Ad Rw21_Kd.1) off_Kd;have Re22_Kd:=zh (hs.at Rw21_Kd.1 off_Kd);have off_B':=off2_B;have off_Kd':=off2_Kd;have HCe22:=zh hc;have HSe22:=zh (HSw21.1.trans hs);clear Rw21_B off_B Rw21_Kd off_Kd HCw21 HSw21 hc hs;have off_B:=off_B';clear off_B' off2_B;have off_Kd:=off_Kd';clear off_Kd' off2_Kd;obtain ⟨l_c,l_mf,l_ms,l_mn⟩:=HCe22.1.lt;have l_B:=Ad Re22_B.1;have l_Kd:=Ad Re22_Kd.1
 go_wp2_with fail
 go_meet
 case rel=>exact qpc):p:=h
theorem qsd{p:Prop}(h:p:=by
 obtain ⟨T1,ua1,uc1,hc,hs,hB,off_B⟩:=hcut;generalize wc=wl at*
 have HCl:=zh hc;have HSl:=zh hs;have RBl:=zh hB;clear hc hs hB hpre HNR HCw1 HSw1 Rw1_B;obtain ⟨l_c,l_mf,l_ms,l_mn⟩:=HCl.1.lt;obtain ⟨l_B,xB⟩:=Bv RBl.1
 go_wp2_with fail
 clear l_c l_B xB l_mf l_ms l_mn
 go_loopg [144] (kids.length+1) (fun g j wr=>JR K rec kids st' T w (w.heap.size) (.cells #[.int .i64 kd,.string tx,.float .f64 fm,.slice na kids.length nc,.complex .f64 re im] 50 (0,0)) g j wr)
 case atStart=>exact qcd
 obtain ⟨k,rfl,hk1,hk2,st2,T2,ua2,uc2,hcf,hc,hs,hB,off_B⟩:=hrel;have HCr:=zh hc;have HSr:=zh hs;have RB:=zh hB;clear hc hs hB
 by_cases hlt:k<kids.length
 ·obtain ⟨g3,o3,fm3,na3,nc3,hna,kc0,kc1,kc2,kc3,kc4,hkn⟩:=CK.kid HCr.1 HKD.1 hlt;subst hna;have lg3:g3<wr.heap.size:=Cd kc0;rw [List.drop_eq_getElem_cons hlt,Lj] at hcf;generalize kids[k]=kk at*
  simp only [Option.bind_eq_bind,Option.bind_eq_some_iff] at hcf;obtain ⟨s3,hr,hcf⟩:=hcf
  cases gk with
  |zero=>omega
  |succ f=>
   exact qnd
 have hke:k=kids.length:=by omega
 subst hke;rw [List.drop_length,Lj] at hcf;obtain rfl:st2=st':=by simpa using hcf
 clear hcf;obtain ⟨l_c,l_mf,l_ms,l_mn⟩:=HCr.1.lt;have l_B:=Ad RB.1
 go_wp2_with fail
 refine Cq (v:= .tuple #[]) (fun W=>Ac [] wr W) jg (fun w51 hW=> ?_) rfl (fun w51 hW=> ?_)
 ·have Kw51:Ac [] wr w51:=hW;exact Le
 have Kw51:Ac [] wr w51:=hW;have Rw51_B:=zh (Kw51.at RB.1 qg);have HCw51:=zh (HCr.1.kp0 Kw51);have HSw51:=zh (HSr.1.loc Kw51 qg);clear Kw51 l_c l_B l_mf l_ms l_mn RB HCr HSr;exact ZO):p:=h
theorem zsd{p:Prop}(h:p:=by
 intro w2 hs2;have x0:=Aa hs2.row 0;have x1:=Aa hs2.row 1;have x2:=Aa hs2.row 2;have x3:=Aa hs2.row 3;have x4:=Aa hs2.row 4;simp at x0 x1 x2 x3 x4;have hsz2:=HK1.1.size;have HTR2:=zh hs2.row;have hst2:Ac [] w1 w2:=(Ac.alloc [] w1 (By 0 ⟨#[]⟩ 0 0 0)).trans hs2.keeps qg;have HST2:=zh hst2;have HK2:=zh (HK1.1.trans hst2 qg);clear hs2 hst2;have HP2:=zh (HP1.1.keep HST2.1);have c0:=Aa HP2.1.row 0;have f0:=Ab HP2.1.row 0;have c1:=Aa HP2.1.row 1;have f1:=Ab HP2.1.row 1;have c2:=Aa HP2.1.row 2;have f2:=Ab HP2.1.row 2;have c3:=Aa HP2.1.row 3;have f3:=Ab HP2.1.row 3;have c4:=Aa HP2.1.row 4;have f4:=Ab HP2.1.row 4;have c5:=Aa HP2.1.row 5;have f5:=Ab HP2.1.row 5;simp at c0 c1 c2 c3 c4 c5;have hlt:=Ad HP2.1.row
 go_wp2_with fail
 exact qjb):p:=h
theorem qrd{p:Prop}(h:p:=by
 rintro w51 ⟨Kw51,cw51_U⟩;have ⟨n_c_U,n_U_c⟩:=Ai l_c;have ⟨n_mf_U,n_U_mf⟩:=Ai l_mf;have ⟨n_ms_U,n_U_ms⟩:=Ai l_ms;have ⟨n_mn_U,n_U_mn⟩:=Ai l_mn;have o_U:w.heap.size≤wr.heap.size:=HSr.1.size;have off_U:Fu K T (wr.heap.size):=Ao HCr.1 (Nat.le_refl _);have o0_U:K.w0.heap.size≤wr.heap.size:=Nat.le_trans HCr.1.keep.size (Nat.le_refl _);have HCw51:=zh (HCr.1.kp0 Kw51);have HSw51:=zh (HSr.1.loc Kw51 qg);have HKkbw51:=zh (HKBr.1.keep Kw51 qg);have Rw51_U:=zh cw51_U;clear Kw51 cw51_U l_c l_mf l_ms l_mn l_kb HCr HSr HKBr;have l_kb:=HKkbw51.1.lt;obtain ⟨l_c,l_mf,l_ms,l_mn⟩:=HCw51.1.lt;obtain ⟨l_U,xU⟩:=Rh Rw51_U.1;have HRF:=zh (IH HCw51.1 HRT.1)
 go_cut [16] (fun s0 W=>s0= .bool false∧Ac [] w51 W)
 case first=>
  go_region_law (refine Gr (fun W=>Ac [] w51 W) jg ?_;rintro wq hq;refine Pi (f:=45) (vals:= #[.pointer (some ⟨K.c,0,none⟩),.agg #[.int .i64 u.of.1,.string u.of.2]]) qt _ rfl qh (HRF.1 _ hq) ?_;rintro v u_ ⟨rfl,hk0⟩;have hku:=hq.trans hk0 qg;have r_U:=hku.at Rw51_U.1 qg;have lr_U:=Ad r_U;have z0:=Aa r_U 0;have z1:=Aa r_U 1;have z2:=Aa r_U 2;have z3:=Aa r_U 3;have z4:=Aa r_U 4;have z5:=Aa r_U 5;have z6:=Aa r_U 6;have z7:=Aa r_U 7;simp at z0 z1 z2 z3 z4 z5 z6 z7;have hlk3:=(HKkbw51.1.keep hku qg).look r (n:=kn) HKN.1)
  all_goals
   go_wp2_with fail
   go_meet
   case rel=>exact jvc
 obtain ⟨rfl,hk⟩:=hcut;generalize wc=w52 at*
 have Rw52_U:=zh (hk.at Rw51_U.1 qg);have HCw52:=zh (HCw51.1.kp0 hk);have HSw52:=zh (HSw51.1.loc hk qg);have HKkbw52:=zh (HKkbw51.1.keep hk qg);clear hk HRF Rw51_U HCw51 HSw51 HKkbw51 l_c l_U xU l_mf l_ms l_mn l_kb;have l_kb:=HKkbw52.1.lt;obtain ⟨l_c,l_mf,l_ms,l_mn⟩:=HCw52.1.lt;have l_U:=Ad Rw52_U.1
 go_wp2_with fail
 go_roundg f
 case measure=>omega
 exact qvc):p:=h
theorem jrd{p:Prop}(h:p:=by
 rintro w51 ⟨Kw51,cw51_Kd⟩;have ⟨n_c_Kd,n_Kd_c⟩:=Ai l_c;have ⟨n_mf_Kd,n_Kd_mf⟩:=Ai l_mf;have ⟨n_ms_Kd,n_Kd_ms⟩:=Ai l_ms;have ⟨n_mn_Kd,n_Kd_mn⟩:=Ai l_mn;have ⟨n_B_Kd,n_Kd_B⟩:=Ai l_B;have o_Kd:w.heap.size≤wr.heap.size:=HSr.1.size;have off_Kd:Fu K T2 (wr.heap.size):=Ao HCr.1 (Nat.le_refl _);have o0_Kd:K.w0.heap.size≤wr.heap.size:=Nat.le_trans HCr.1.keep.size (Nat.le_refl _);have Rw51_B:=zh (Kw51.at RB.1 qg);have HCw51:=zh (HCr.1.kp0 Kw51);have HSw51:=zh (HSr.1.loc Kw51 qg);have Rw51_Kd:=zh cw51_Kd;clear Kw51 cw51_Kd l_c l_B xB l_mf l_ms l_mn RB HCr HSr;refine (Hv hK HCw51.1 kk.re kk.im 32).mono ?_;rintro r e52 ⟨T52,ua52,uc52,rfl,hc,hs⟩;have off2_B:=hs.off (Ad Rw51_B.1) off_B;have Re52_B:=zh (hs.at Rw51_B.1 off_B);have off2_Kd:=hs.off (Ad Rw51_Kd.1) off_Kd;have Re52_Kd:=zh (hs.at Rw51_Kd.1 off_Kd);have off_B':=off2_B;have off_Kd':=off2_Kd;have HCe52:=zh hc;have HSe52:=zh (HSw51.1.trans hs);clear Rw51_B off_B Rw51_Kd off_Kd HCw51 HSw51 hc hs;have off_B:=off_B';clear off_B' off2_B;have off_Kd:=off_Kd';clear off_Kd' off2_Kd;obtain ⟨l_c,l_mf,l_ms,l_mn⟩:=HCe52.1.lt;have l_B:=Ad Re52_B.1;obtain ⟨l_Kd,xKd⟩:=Bv Re52_Kd.1
 go_wp2_with fail
 clear l_c l_B l_Kd xKd l_mf l_ms l_mn;refine (HREC.1 _ _ _ _ hr hkn _ _ _ _ HCe52.1).mono ?_;rintro r e53 ⟨T53,ua53,uc53,rfl,hc,hs⟩;have off2_B:=hs.off (Ad Re52_B.1) off_B;have Re53_B:=zh (hs.at Re52_B.1 off_B);have off2_Kd:=hs.off (Ad Re52_Kd.1) off_Kd;have Re53_Kd:=zh (hs.at Re52_Kd.1 off_Kd);have off_B':=off2_B;have off_Kd':=off2_Kd;have HCe53:=zh hc;have HSe53:=zh (HSe52.1.trans hs);clear Re52_B off_B Re52_Kd off_Kd HCe52 HSe52 hc hs;have off_B:=off_B';clear off_B' off2_B;have off_Kd:=off_Kd';clear off_Kd' off2_Kd;obtain ⟨l_c,l_mf,l_ms,l_mn⟩:=HCe53.1.lt;have l_B:=Ad Re53_B.1;have l_Kd:=Ad Re53_Kd.1
 go_wp2_with fail
 go_roundg f
 case measure=>omega
 exact qbd):p:=h
theorem qqd{p:Prop}(h:p:=by
 rintro r e2 ⟨T2,ua2,uc2,rfl,hc,hs⟩;have off2_B:=hs.off (Ad Rw1_B.1) off_B;have Re2_B:=zh (hs.at Rw1_B.1 off_B);have off_B':=off2_B;have HCe2:=zh hc;have HSe2:=zh (HSw1.1.trans hs);clear Rw1_B off_B HCw1 HSw1 hc hs;have off_B:=off_B';clear off_B' off2_B;obtain ⟨l_c,l_mf,l_ms,l_mn⟩:=HCe2.1.lt;have l_B:=Ad Re2_B.1
 go_wp2_with fail
 refine Ap (v:= .tuple #[]) (fun W=>Ac [] e2 W) jg (fun w3 hW=> ?_) rfl (fun w3 hW=> ?_)
 ·have Kw3:Ac [] e2 w3:=hW;exact Le
 have Kw3:Ac [] e2 w3:=hW;have Rw3_B:=zh (Kw3.at Re2_B.1 qg);have HCw3:=zh (HCe2.1.kp0 Kw3);have HSw3:=zh (HSe2.1.loc Kw3 qg);clear Kw3 l_c l_B l_mf l_ms l_mn Re2_B HCe2 HSe2;exact zbc):p:=h
theorem jqd{p:Prop}(h:p:=by
 obtain ⟨l_c,xc⟩:=Cp HCw1.1.row;obtain ⟨-,l_mf,l_ms,l_mn⟩:=HCw1.1.lt;obtain ⟨l_B,xB⟩:=Bv Rw1_B.1
 go_wp2_with fail
 clear l_c xc l_B xB l_mf l_ms l_mn;refine zdd ?_;rintro r e21 ⟨T21,ua21,uc21,rfl,hc,hs⟩;have off2_B:=hs.off (Ad Rw1_B.1) off_B;have Re21_B:=zh (hs.at Rw1_B.1 off_B);have off_B':=off2_B;have HCe21:=zh hc;have HSe21:=zh (HSw1.1.trans hs);clear Rw1_B off_B HCw1 HSw1 hc hs;have off_B:=off_B';clear off_B' off2_B;obtain ⟨l_c,l_mf,l_ms,l_mn⟩:=HCe21.1.lt;have l_B:=Ad Re21_B.1
 go_wp2_with fail
 go_meet
 case rel=>exact jdd):p:=h
theorem zqd{p:Prop}(h:p:=by
 rintro w51 ⟨Kw51,cw51_U⟩;have ⟨n_c_U,n_U_c⟩:=Ai l_c;have ⟨n_mf_U,n_U_mf⟩:=Ai l_mf;have ⟨n_ms_U,n_U_ms⟩:=Ai l_ms;have ⟨n_mn_U,n_U_mn⟩:=Ai l_mn;have o_U:w.heap.size≤wr.heap.size:=HSr.1.size;have off_U:Fu K T (wr.heap.size):=Ao HCr.1 (Nat.le_refl _);have o0_U:K.w0.heap.size≤wr.heap.size:=Nat.le_trans HCr.1.keep.size (Nat.le_refl _);have HCw51:=zh (HCr.1.kp0 Kw51);have HSw51:=zh (HSr.1.loc Kw51 qg);have HKkbw51:=zh (HKBr.1.keep Kw51 qg);have Rw51_U:=zh cw51_U;clear Kw51 cw51_U l_c l_mf l_ms l_mn l_kb HCr HSr HKBr;have l_kb:=HKkbw51.1.lt;obtain ⟨l_c,l_mf,l_ms,l_mn⟩:=HCw51.1.lt;obtain ⟨l_U,xU⟩:=Rh Rw51_U.1;have HRF:=zh (IH HCw51.1 HRT.1)
 go_cut [16] (fun s0 W=>s0= .bool true∧Ac [] w51 W)
 case first=>
  go_region_law (refine Gr (fun W=>Ac [] w51 W) jg ?_;rintro wq hq;refine Pi (f:=45) (vals:= #[.pointer (some ⟨K.c,0,none⟩),.agg #[.int .i64 u.of.1,.string u.of.2]]) qt _ rfl qh (HRF.1 _ hq) ?_;rintro v u_ ⟨rfl,hk0⟩;have hku:=hq.trans hk0 qg;have r_U:=hku.at Rw51_U.1 qg;have lr_U:=Ad r_U;have z0:=Aa r_U 0;have z1:=Aa r_U 1;have z2:=Aa r_U 2;have z3:=Aa r_U 3;have z4:=Aa r_U 4;have z5:=Aa r_U 5;have z6:=Aa r_U 6;have z7:=Aa r_U 7;simp at z0 z1 z2 z3 z4 z5 z6 z7;have hlk3:=(HKkbw51.1.keep hku qg).look r (n:=kn) HKN.1)
  all_goals
   go_wp2_with fail
   go_meet
   case rel=>exact jvc
 obtain ⟨rfl,hk⟩:=hcut;generalize wc=w52 at*
 have Rw52_U:=zh (hk.at Rw51_U.1 qg);have HCw52:=zh (HCw51.1.kp0 hk);have HSw52:=zh (HSw51.1.loc hk qg);have HKkbw52:=zh (HKkbw51.1.keep hk qg);clear hk HRF Rw51_U HCw51 HSw51 HKkbw51 l_c l_U xU l_mf l_ms l_mn l_kb;have l_kb:=HKkbw52.1.lt;obtain ⟨l_c,l_mf,l_ms,l_mn⟩:=HCw52.1.lt;obtain ⟨l_U,xU⟩:=Rh Rw52_U.1
 go_wp2_with fail
 clear l_c l_U xU l_mf l_ms l_mn l_kb;refine (Gz hK HCw52.1 u.re u.im 30).mono ?_;rintro r e53 ⟨rfl,hc,hs⟩;have off2_U:=hs.off (Ad Rw52_U.1) off_U;have Re53_U:=zh (hs.at Rw52_U.1 off_U);have off_U':=off2_U;have HCe53:=zh hc;have HSe53:=zh (HSw52.1.trans hs);have HKkbe53:=zh (HKkbw52.1.step hs off_kb);clear Rw52_U off_U HCw52 HSw52 hc hs HKkbw52;have off_U:=off_U';clear off_U' off2_U;have l_kb:=HKkbe53.1.lt;obtain ⟨l_c,l_mf,l_ms,l_mn⟩:=HCe53.1.lt;have l_U:=Ad Re53_U.1
 go_wp2_with fail
 go_roundg f
 case measure=>omega
 exact quc):p:=h
theorem qpd{p:Prop}(h:p:=by
 go_wp2_with fail
 refine YS ?_;rintro r w1 ⟨v,rfl,hn',hp1,hk1⟩;have hn:Au w1 (fun g=>w.heap.size<g) n v:=hn'.keep (Ac.refl [] w1) qg (fun x hx=>by have h2:=hx;simp at h2;omega);clear hn';have hq1:=hk1.at (Ca w (Fo 0 ⟨#[]⟩ 0 (.slice none 0 0) 0 0)) qi;have hkw:Ac [p] w w1:=(Ac.alloc [p] w _).trans hk1 (fun _ h=> .inl h);have hsz:w.heap.size<w1.heap.size:=by have:=hk1.size;simp at this;omega
 have h14:=hp1.p;obtain ⟨tx,nm,a,l,cap,re,im,rfl,-,-⟩:=hn.shape;generalize hkd:n.kind=kd at*
 have hka:=Ac.alloc [] w1 (Fo kd tx nm (.slice a l cap) re im);have HN1:=zh (hn.keep0 hka);have HP1:=zh (hp1.keep hka);have HK1:=zh (hkw.trans hka qg);have HQ1:=zh (hka.at hq1 qg);have HB1:=zh (Ca w1 (Fo kd tx nm (.slice a l cap) re im));clear hn hp1 hkw hk1 hq1 hka
 go_wp2_with fail
 generalize w1.alloc (Fo kd tx nm (.slice a l cap) re im)=w2 at*
 have hb2:w1.heap.size<w2.heap.size:=Ad HB1.1;have y0:=Aa HB1.1 0;have y1:=Aa HB1.1 1;have y2:=Aa HB1.1 2;have y3:=Aa HB1.1 3;have y4:=Aa HB1.1 4;simp at y0 y1 y2 y3 y4;refine (Eh HP1.1).mono ?_;rintro r w' ⟨rfl,hw'⟩;rw [hw'];clear hw'
 go_wp2_with fail
 refine (Js HN1.1).mono ?_;rintro r w4 ⟨rfl,hk4⟩;rw [HL.1];have HN4:=zh (HN1.1.keep0 hk4);have HP4:=zh (HP1.1.keep hk4);have HK4:=zh (HK1.1.trans hk4 qg);have HQ4:=zh (hk4.at HQ1.1 qg);have HB4:=zh (hk4.at HB1.1 qg);clear hk4 y0 y1 y2 y3 y4;have hq3:=HQ4.1;have hb3:=HB4.1;have hl3:w.heap.size<w4.heap.size:=Ad hq3;have hl4:w1.heap.size<w4.heap.size:=Ad hb3;have x0:=Aa hb3 0;have x1:=Aa hb3 1;have x2:=Aa hb3 2;have x3:=Aa hb3 3;have x4:=Aa hb3 4;simp at x0 x1 x2 x3 x4;have q0:=Aa hq3 0;have qf0:=Ab hq3 0;have q1:=Aa hq3 1;have qf1:=Ab hq3 1;have q2:=Aa hq3 2;have qf2:=Ab hq3 2;have q3:=Aa hq3 3;have qf3:=Ab hq3 3;have q4:=Aa hq3 4;have qf4:=Ab hq3 4;simp at q0 q1 q2 q3 q4;have n5:w.heap.size≠w1.heap.size:=Nat.ne_of_lt hsz;have n6:w1.heap.size≠w.heap.size:=Nat.ne_of_gt hsz;clear hb3 hq3
 go_wp2_with fail
 have t5:=OM w4 w.heap.size kd tx nm (.slice a l cap) re im;refine bodyPost_ret (v:= .agg #[.int .i64 kd,.string tx,.float .f64 nm,.slice a l cap,.complex .f64 re im]) zl rfl ⟨_,rfl, ?_, ?_, ?_⟩
 ·exact HN4.1.keep t5 qg (fun x hx=>Nat.le_of_lt hx)
 ·exact HP4.1.keepN t5 qi qi
 exact HK4.1.trans t5 qg):p:=h
theorem DG{p:Prop}(h:p:=by
 obtain ⟨l_R,x0,x1,x2,x3,x4,y0,y1,y2,y3,y4⟩:=Bv HB.res;exact YQ):p:=h
theorem zpd{p:Prop}(h:p:=by
 go_wp2_with fail
 refine YS ?_;rintro r w1 ⟨v,rfl,hn',hp1,hk1⟩;have hn:Au w1 (fun g=>w.heap.size<g) n v:=hn'.keep (Ac.refl [] w1) qg (fun x hx=>by have h2:=hx;simp at h2;omega);clear hn';have hq1:=hk1.at (Ca w (Fo 0 ⟨#[]⟩ 0 (.slice none 0 0) 0 0)) qi;have hkw:Ac [p] w w1:=(Ac.alloc [p] w _).trans hk1 (fun _ h=> .inl h);have hsz:w.heap.size<w1.heap.size:=by have:=hk1.size;simp at this;omega
 have h14:=hp1.p;obtain ⟨tx,nm,a,l,cap,re,im,rfl,-,-⟩:=hn.shape;generalize hkd:n.kind=kd at*
 have hka:=Ac.alloc [] w1 (Fo kd tx nm (.slice a l cap) re im);have HN1:=zh (hn.keep0 hka);have HP1:=zh (hp1.keep hka);have HK1:=zh (hkw.trans hka qg);have HQ1:=zh (hka.at hq1 qg);have HB1:=zh (Ca w1 (Fo kd tx nm (.slice a l cap) re im));clear hn hp1 hkw hk1 hq1 hka
 go_wp2_with fail
 generalize w1.alloc (Fo kd tx nm (.slice a l cap) re im)=w2 at*
 have hb2:w1.heap.size<w2.heap.size:=Ad HB1.1;have y0:=Aa HB1.1 0;have y1:=Aa HB1.1 1;have y2:=Aa HB1.1 2;have y3:=Aa HB1.1 3;have y4:=Aa HB1.1 4;simp at y0 y1 y2 y3 y4;refine (Eh HP1.1).mono ?_;rintro r w' ⟨rfl,hw'⟩;rw [hw'];clear hw'
 go_wp2_with fail
 refine (Js HN1.1).mono ?_;rintro r w4 ⟨rfl,hk4⟩;rw [HL.1];have HN4:=zh (HN1.1.keep0 hk4);have HP4:=zh (HP1.1.keep hk4);have HK4:=zh (HK1.1.trans hk4 qg);have HQ4:=zh (hk4.at HQ1.1 qg);have HB4:=zh (hk4.at HB1.1 qg);clear hk4 y0 y1 y2 y3 y4
 go_wp2_with fail
 refine (Mz HP4.1 HO.1 zi).mono ?_;rintro r w5 ⟨rfl,hk5⟩;have HN5:=zh (HN4.1.keep0 hk5);have HP5:=zh (HP4.1.keep hk5);have HK5:=zh (HK4.1.trans hk5 qg);have HQ5:=zh (hk5.at HQ4.1 qg);have HB5:=zh (hk5.at HB4.1 qg);clear hk5;have hq3:=HQ5.1;have hb3:=HB5.1;have hl3:w.heap.size<w5.heap.size:=Ad hq3;have hl4:w1.heap.size<w5.heap.size:=Ad hb3;have x0:=Aa hb3 0;have x1:=Aa hb3 1;have x2:=Aa hb3 2;have x3:=Aa hb3 3;have x4:=Aa hb3 4;simp at x0 x1 x2 x3 x4;have q0:=Aa hq3 0;have qf0:=Ab hq3 0;have q1:=Aa hq3 1;have qf1:=Ab hq3 1;have q2:=Aa hq3 2;have qf2:=Ab hq3 2;have q3:=Aa hq3 3;have qf3:=Ab hq3 3;have q4:=Aa hq3 4;have qf4:=Ab hq3 4;simp at q0 q1 q2 q3 q4;have n5:w.heap.size≠w1.heap.size:=Nat.ne_of_lt hsz;have n6:w1.heap.size≠w.heap.size:=Nat.ne_of_gt hsz;clear hb3 hq3
 go_wp2_with fail
 have t5:=OM w5 w.heap.size kd tx nm (.slice a l cap) re im;refine bodyPost_ret (v:= .agg #[.int .i64 kd,.string tx,.float .f64 nm,.slice a l cap,.complex .f64 re im]) zl rfl ⟨_,rfl, ?_, ?_, ?_⟩
 ·exact HN5.1.keep t5 qg (fun x hx=>Nat.le_of_lt hx)
 ·exact HP5.1.keepN t5 qi qi
 exact HK5.1.trans t5 qg):p:=h
theorem qod{p:Prop}(h:p:=by
 go_wp2_with fail
 refine YS ?_;rintro r w1 ⟨v,rfl,hn',hp1,hk1⟩;have hn:Au w1 (fun g=>w.heap.size<g) n v:=hn'.keep (Ac.refl [] w1) qg (fun x hx=>by have h2:=hx;simp at h2;omega);clear hn';have hq1:=hk1.at (Ca w (Fo 0 ⟨#[]⟩ 0 (.slice none 0 0) 0 0)) qi;have hkw:Ac [p] w w1:=(Ac.alloc [p] w _).trans hk1 (fun _ h=> .inl h);have hsz:w.heap.size<w1.heap.size:=by have:=hk1.size;simp at this;omega
 have h14:=hp1.p;obtain ⟨tx,nm,a,l,cap,re,im,rfl,-,-⟩:=hn.shape;generalize hkd:n.kind=kd at*
 have hka:=Ac.alloc [] w1 (Fo kd tx nm (.slice a l cap) re im);have HN1:=zh (hn.keep0 hka);have HP1:=zh (hp1.keep hka);have HK1:=zh (hkw.trans hka qg);have HQ1:=zh (hka.at hq1 qg);have HB1:=zh (Ca w1 (Fo kd tx nm (.slice a l cap) re im));clear hn hp1 hkw hk1 hq1 hka
 go_wp2_with fail
 refine wp_loop_rounds 1 ?_;rw [rounds_succ]
 go_wp2_with fail
 generalize w1.alloc (Fo kd tx nm (.slice a l cap) re im)=w2 at*
 refine zlb ?_;exact jmd):p:=h
theorem zod{p:Prop}(h:p:=by
 have HSA:=zh hsa;have HG:=zh hG;clear hsa hG;have n10:(c==10)=false:=beq_false_of_ne h10;have n34:(c==34)=false:=beq_false_of_ne h34;have hale:a≤s.size:=by omega
 have n47:(c==47)=false:=beq_false_of_ne h47;clear h47;have hna:=fun W=>Tm hnu hale jh W
 obtain ⟨xp,x2⟩:=Yl hsg h3;have hxn:=WZ xp;have hxl:x.toList=x.data.toList:=ByteArray.toList_eq x
 have hx4:¬x.toList= []:=by
  intro h;rw [hxl] at h;have:x.data.toList.length=x.size:=rfl;rw [h] at this;simp at this
  omega
 have hx2:(x.toList== [])=false:=by simpa using hx4
 have hx3:x.toList.isEmpty=false:=by simpa using hx4
 clear hxl
 have hsa2:∀W,Calls Tryz.prog 101 #[.string s,.int .i64 a] W fun e w'=>e= .returned (.string x)∧w'=W:=by
  intro W;have:=NM h3 jh W;rw [hz,hsg] at this;exact this
 have HSG:=zh hsa2;have HNU:=zh hna;clear hsa2 hsg hna hnu;clear h10 h34
 go_enter Tryz.func62,Tryz.ntmps62
 go_wp2_with fail
 refine (HSA.1 _).mono ?_;rintro r w1 ⟨rfl,rfl⟩
 go_wp2_with ((with_reducible show wpList _ _ _ (Oper.mk none (.store 90 _ _) _ _ _ _::_) _ _);refine Oa 90 (w.heap.size+1) 0 _ (show _=some (By 0 ⟨#[]⟩ 0 0 0) from zm) rfl (.agg #[.int .i64 0,.string ⟨#[]⟩,.float .f64 0,.int .i64 a,.int .i64 a]) rfl qh jj ji ?_)
 intro w2 hs2;have hr2:=hs2.row;have hz2:=hs2.size;simp at hr2 hz2;have hk2:Ac [] w w2:=((Ac.alloc [] w (By 0 ⟨#[]⟩ 0 0 0)).trans (Ac.alloc [] _ (By 0 ⟨#[]⟩ 0 0 0)) qg).trans hs2.keeps qg;have hq2:=hs2.at (Ed (o:=By 0 ⟨#[]⟩ 0 0 0) (Ca w (By 0 ⟨#[]⟩ 0 0 0))) jh;have HR2:=zh hr2;have HK2:=zh hk2;have HQ2:=zh hq2;clear hs2 hr2 hk2 hq2
 go_wp2_with ((with_reducible show wpList _ _ _ (Oper.mk none (.store 90 _ _) _ _ _ _::_) _ _);refine Oa 90 (w.heap.size+2) 0 _ (show _=some (By 0 ⟨#[]⟩ 0 0 0) from qm) zu (.agg #[.int .i64 0,.string ⟨#[]⟩,.float .f64 0,.int .i64 a,.int .i64 0]) rfl qh jj ji ?_)
 intro w3 hs3;have hq3:=hs3.at (Ed (o:=By 0 ⟨#[]⟩ 0 0 0) HQ2.1) jh;have hr3:=hs3.at (Ed (o:=By 0 ⟨#[]⟩ 0 0 0) HR2.1) jh;have hk3:Ac [] w w3:=(HK2.1.trans (Ac.alloc [] w2 (By 0 ⟨#[]⟩ 0 0 0)) qg).trans hs3.keeps qg;clear hs3 hz2 HR2 HK2 HQ2;have HG3:=zh (HG.1.keep hk3 qg);have HQ3:=zh hq3;have HR3:=zh hr3;have HK3:=zh hk3;clear hq3 hr3 hk3 HSA HG;generalize hRR:w.heap.size=R at*
 have HRW:Hd (w.heap.size=R):=zh hRR;clear hRR
 go_wp2_with fail
 refine (Hr c _).mono ?_;rintro r w' ⟨rfl,hw'⟩;rw [hw'];clear hw';rw [hl]
 go_wp2_with fail
 refine (HNU.1 _).mono ?_;rintro r w' ⟨rfl,hw'⟩;rw [hw'];clear hw'
 go_wp2_with fail
 refine (HSG.1 _).mono ?_;rintro r w' ⟨rfl,hw'⟩;rw [hw'];clear hw'
 go_wp2_with ((with_reducible show wpList _ _ _ (Oper.mk none (.store 90 _ _) _ _ _ _::_) _ _);refine Oa 90 R 0 _ HQ3.1 rfl (.agg #[.int .i64 9,.string x,.float .f64 0,.int .i64 a,.int .i64 ((a:Int)+x.size)]) rfl qh jj ji ?_)
 intro w9 hs9;have x0:=Aa hs9.row 0;have x1:=Aa hs9.row 1;have x2:=Aa hs9.row 2;have x3:=Aa hs9.row 3;have x4:=Aa hs9.row 4;simp at x0 x1 x2 x3 x4;have hk9:Ac [] w w9:=Ac.trans HK3.1 hs9.keeps jl;clear hs9
 go_wp2_with fail
 exact qhb):p:=h
theorem qnd{p:Prop}(h:p:=by
 obtain ⟨l_c,l_mf,l_ms,l_mn⟩:=HCr.1.lt;obtain ⟨l_B,xB⟩:=Bv RB.1
 go_wp2_with fail
 refine YG ?_;rintro w51 ⟨Kw51,cw51_Kd⟩;have ⟨n_c_Kd,n_Kd_c⟩:=Ai l_c;have ⟨n_mf_Kd,n_Kd_mf⟩:=Ai l_mf;have ⟨n_ms_Kd,n_Kd_ms⟩:=Ai l_ms;have ⟨n_mn_Kd,n_Kd_mn⟩:=Ai l_mn;have ⟨n_B_Kd,n_Kd_B⟩:=Ai l_B;have o_Kd:w.heap.size≤wr.heap.size:=HSr.1.size;have off_Kd:Fu K T2 (wr.heap.size):=Ao HCr.1 (Nat.le_refl _);have o0_Kd:K.w0.heap.size≤wr.heap.size:=Nat.le_trans HCr.1.keep.size (Nat.le_refl _);have Rw51_B:=zh (Kw51.at RB.1 qg);have HCw51:=zh (HCr.1.kp0 Kw51);have HSw51:=zh (HSr.1.loc Kw51 qg);have Rw51_Kd:=zh cw51_Kd;clear Kw51 cw51_Kd l_c l_B xB l_mf l_ms l_mn RB HCr HSr;refine jrc ?_;rintro r e52 ⟨T52,ua52,uc52,rfl,hc,hs⟩;have off2_B:=hs.off (Ad Rw51_B.1) off_B;have Re52_B:=zh (hs.at Rw51_B.1 off_B);have off2_Kd:=hs.off (Ad Rw51_Kd.1) off_Kd;have Re52_Kd:=zh (hs.at Rw51_Kd.1 off_Kd);have off_B':=off2_B;have off_Kd':=off2_Kd;have HCe52:=zh hc;have HSe52:=zh (HSw51.1.trans hs);clear Rw51_B off_B Rw51_Kd off_Kd HCw51 HSw51 hc hs;have off_B:=off_B';clear off_B' off2_B;have off_Kd:=off_Kd';clear off_Kd' off2_Kd;obtain ⟨l_c,l_mf,l_ms,l_mn⟩:=HCe52.1.lt;have l_B:=Ad Re52_B.1;have l_Kd:=Ad Re52_Kd.1
 go_wp2_with fail
 go_roundg f
 case measure=>omega
 exact zbd):p:=h
theorem jnd{p:Prop}(h:p:=by
 rw [hx] at hi;obtain ⟨le1,le2,le3⟩:=Eo ht h.le;have hob:=h.ob;have H:=zh h;have HI:=zh hi;have HT:=zh ht;clear hi hx ht h;obtain ⟨kd,tx,nm,fr,te⟩:=t;obtain ⟨pos,opn,ng⟩:=st;simp only at le1 le2 le3 hob ho;obtain ⟨ob1,ob2⟩:=hob
 go_enter Tryz.func104,Tryz.ntmps104
 go_wp2_with fail
 refine HI.1.mono ?_;rintro r w0 ⟨rfl,hk0⟩;have HP0:=zh (H.1.keep hk0);have HK0:=zh hk0;have c1:=Aa HP0.1.row 1;have hlt:=Ad HP0.1.row;simp at c1;clear hk0
 go_wp2_with fail
 refine qib ?_;rintro r w1 ⟨rfl,hk1⟩;have HP1:=zh (HP0.1.keep hk1);have HK1:=zh (HK0.1.trans hk1 qg);clear hk1 c1 hlt
 go_wp2_with ((with_reducible show wpList _ _ _ (Oper.mk none (.store 90 _ _) _ _ _ _::_) _ _);refine Oa 90 w1.heap.size 0 _ (Ca _ _) rfl (.agg #[.int .i64 kd,.string tx,.float .f64 nm,.int .i64 fr,.int .i64 te]) rfl qh jj ji ?_)
 intro w2 hs2;have x0:=Aa hs2.row 0;have x1:=Aa hs2.row 1;have x2:=Aa hs2.row 2;have x3:=Aa hs2.row 3;have x4:=Aa hs2.row 4;simp at x0 x1 x2 x3 x4;have hsz2:=HK1.1.size;have HTR2:=zh hs2.row;have hst2:Ac [] w1 w2:=(Ac.alloc [] w1 (By 0 ⟨#[]⟩ 0 0 0)).trans hs2.keeps qg;have HST2:=zh hst2;have HK2:=zh (HK1.1.trans hst2 qg);clear hs2 hst2;have HP2:=zh (HP1.1.keep HST2.1);have c0:=Aa HP2.1.row 0;have f0:=Ab HP2.1.row 0;have c1:=Aa HP2.1.row 1;have f1:=Ab HP2.1.row 1;have c2:=Aa HP2.1.row 2;have f2:=Ab HP2.1.row 2;have c3:=Aa HP2.1.row 3;have f3:=Ab HP2.1.row 3;have c4:=Aa HP2.1.row 4;have f4:=Ab HP2.1.row 4;have c5:=Aa HP2.1.row 5;have f5:=Ab HP2.1.row 5;simp at c0 c1 c2 c3 c4 c5;have hlt:=Ad HP2.1.row
 go_wp2_with fail
 go_ret
 have hrow:((w2.setCell ⟨p,1,none⟩ (.int .i64 te)).setCell ⟨p,2,none⟩ (.int .i64 (opn -1))).heap[p]? =some (LD s ⟨te,opn -1,ng⟩):=by
  have:=(Di (i:=2) (u:= .int .i64 (opn -1)) (Di (i:=1) (u:= .int .i64 te) HP2.1.row))
  simpa using this
 have hkp:Ac [p] w2 ((w2.setCell ⟨p,1,none⟩ (.int .i64 te)).setCell ⟨p,2,none⟩ (.int .i64 (opn -1))):=(Ac.trans (Ac.trans (Ac.refl [p] w2) (Ac.setCell [p] _ _ _ qg) qg) (Ac.setCell [p] _ _ _ qg) qg);exact zjb):p:=h
theorem znd{p:Prop}(h:p:=by
 rw [hx] at hi;obtain ⟨le1,le2,le3⟩:=Eo ht h.le;have hob:=h.ob;have H:=zh h;have HI:=zh hi;have HT:=zh ht;clear hi hx ht h;obtain ⟨kd,tx,nm,fr,te⟩:=t;obtain ⟨pos,opn,ng⟩:=st;simp only at le1 le2 le3 hob ho;obtain ⟨ob1,ob2⟩:=hob
 go_enter Tryz.func104,Tryz.ntmps104
 go_wp2_with fail
 refine HI.1.mono ?_;rintro r w0 ⟨rfl,hk0⟩;have HP0:=zh (H.1.keep hk0);have HK0:=zh hk0;have c1:=Aa HP0.1.row 1;have hlt:=Ad HP0.1.row;simp at c1;clear hk0
 go_wp2_with fail
 refine qib ?_;rintro r w1 ⟨rfl,hk1⟩;have HP1:=zh (HP0.1.keep hk1);have HK1:=zh (HK0.1.trans hk1 qg);clear hk1 c1 hlt
 go_wp2_with ((with_reducible show wpList _ _ _ (Oper.mk none (.store 90 _ _) _ _ _ _::_) _ _);refine Oa 90 w1.heap.size 0 _ (Ca _ _) rfl (.agg #[.int .i64 kd,.string tx,.float .f64 nm,.int .i64 fr,.int .i64 te]) rfl qh jj ji ?_)
 intro w2 hs2;have x0:=Aa hs2.row 0;have x1:=Aa hs2.row 1;have x2:=Aa hs2.row 2;have x3:=Aa hs2.row 3;have x4:=Aa hs2.row 4;simp at x0 x1 x2 x3 x4;have hsz2:=HK1.1.size;have HTR2:=zh hs2.row;have hst2:Ac [] w1 w2:=(Ac.alloc [] w1 (By 0 ⟨#[]⟩ 0 0 0)).trans hs2.keeps qg;have HST2:=zh hst2;have HK2:=zh (HK1.1.trans hst2 qg);clear hs2 hst2;have HP2:=zh (HP1.1.keep HST2.1);have c0:=Aa HP2.1.row 0;have f0:=Ab HP2.1.row 0;have c1:=Aa HP2.1.row 1;have f1:=Ab HP2.1.row 1;have c2:=Aa HP2.1.row 2;have f2:=Ab HP2.1.row 2;have c3:=Aa HP2.1.row 3;have f3:=Ab HP2.1.row 3;have c4:=Aa HP2.1.row 4;have f4:=Ab HP2.1.row 4;have c5:=Aa HP2.1.row 5;have f5:=Ab HP2.1.row 5;simp at c0 c1 c2 c3 c4 c5;have hlt:=Ad HP2.1.row
 go_wp2_with fail
 go_ret
 have hrow:((w2.setCell ⟨p,1,none⟩ (.int .i64 te)).setCell ⟨p,2,none⟩ (.int .i64 (opn+1))).heap[p]? =some (LD s ⟨te,opn+1,ng⟩):=by
  have:=(Di (i:=2) (u:= .int .i64 (opn+1)) (Di (i:=1) (u:= .int .i64 te) HP2.1.row))
  simpa using this
 have hkp:Ac [p] w2 ((w2.setCell ⟨p,1,none⟩ (.int .i64 te)).setCell ⟨p,2,none⟩ (.int .i64 (opn+1))):=(Ac.trans (Ac.trans (Ac.refl [p] w2) (Ac.setCell [p] _ _ _ qg) qg) (Ac.setCell [p] _ _ _ qg) qg);exact zjb):p:=h
theorem YQ{p:Prop}(h:p:=by
 go_wp2_with fail
 refine HB.ret jg (ja HB.res) rfl (fun U ⟨z0,z1,z2,z3,z4⟩=> ?_) jh;exact RT):p:=h
theorem jmd{p:Prop}(h:p:=by
 rintro r w3 ⟨rfl,hk3⟩;have hb3:=hk3.at HB1.1 qg;have hq3:=hk3.at HQ1.1 qg;have HN3:=zh (HN1.1.keep0 hk3);have HP3:=zh (HP1.1.keep hk3);have HK3:=zh (HK1.1.trans hk3 qg);have hl3:w.heap.size<w3.heap.size:=Ad hq3;have hl4:w1.heap.size<w3.heap.size:=Ad hb3;have x0:=Aa hb3 0;have x1:=Aa hb3 1;have x2:=Aa hb3 2;have x3:=Aa hb3 3;have x4:=Aa hb3 4;have q0:=Aa hq3 0;have q1:=Aa hq3 1;have q2:=Aa hq3 2;have q3:=Aa hq3 3;have q4:=Aa hq3 4;have qf0:=Ab hq3 0;have qf1:=Ab hq3 1;have qf2:=Ab hq3 2;have qf3:=Ab hq3 3;have qf4:=Ab hq3 4;simp at x0 x1 x2 x3 x4 q0 q1 q2 q3 q4;have n5:w.heap.size≠w1.heap.size:=Nat.ne_of_lt hsz;have n6:w1.heap.size≠w.heap.size:=Nat.ne_of_gt hsz;clear hk3 hb3 hq3
 go_wp2_with fail
 have t5:=OM w3 w.heap.size kd tx nm (.slice a l cap) re im;refine bodyPost_ret (v:= .agg #[.int .i64 kd,.string tx,.float .f64 nm,.slice a l cap,.complex .f64 re im]) zl rfl ⟨_,rfl, ?_, ?_, ?_⟩
 ·exact jlb
 ·exact qlb
 exact zmb):p:=h
theorem zmd{p:Prop}(h:p:=by
 have HSA:=zh hsa;have HG:=zh hG;clear hsa hG;have n10:(c==10)=false:=beq_false_of_ne h10;have hale:a≤s.size:=by omega
 have HE:=zh hwe;clear hwe
 go_enter Tryz.func62,Tryz.ntmps62
 go_wp2_with fail
 refine (HSA.1 _).mono ?_;rintro r w1 ⟨rfl,rfl⟩
 go_wp2_with ((with_reducible show wpList _ _ _ (Oper.mk none (.store 90 _ _) _ _ _ _::_) _ _);refine Oa 90 (w.heap.size+1) 0 _ (show _=some (By 0 ⟨#[]⟩ 0 0 0) from zm) rfl (.agg #[.int .i64 0,.string ⟨#[]⟩,.float .f64 0,.int .i64 a,.int .i64 a]) rfl qh jj ji ?_)
 intro w2 hs2;have hr2:=hs2.row;have hz2:=hs2.size;simp at hr2 hz2;have hk2:Ac [] w w2:=((Ac.alloc [] w (By 0 ⟨#[]⟩ 0 0 0)).trans (Ac.alloc [] _ (By 0 ⟨#[]⟩ 0 0 0)) qg).trans hs2.keeps qg;have hq2:=hs2.at (Ed (o:=By 0 ⟨#[]⟩ 0 0 0) (Ca w (By 0 ⟨#[]⟩ 0 0 0))) jh;have HR2:=zh hr2;have HK2:=zh hk2;have HQ2:=zh hq2;clear hs2 hr2 hk2 hq2
 go_wp2_with ((with_reducible show wpList _ _ _ (Oper.mk none (.store 90 _ _) _ _ _ _::_) _ _);refine Oa 90 (w.heap.size+2) 0 _ (show _=some (By 0 ⟨#[]⟩ 0 0 0) from qm) zu (.agg #[.int .i64 0,.string ⟨#[]⟩,.float .f64 0,.int .i64 a,.int .i64 0]) rfl qh jj ji ?_)
 intro w3 hs3;have hq3:=hs3.at (Ed (o:=By 0 ⟨#[]⟩ 0 0 0) HQ2.1) jh;have hr3:=hs3.at (Ed (o:=By 0 ⟨#[]⟩ 0 0 0) HR2.1) jh;have hk3:Ac [] w w3:=(HK2.1.trans (Ac.alloc [] w2 (By 0 ⟨#[]⟩ 0 0 0)) qg).trans hs3.keeps qg;clear hs3 hz2 HR2 HK2 HQ2;have HG3:=zh (HG.1.keep hk3 qg);have HQ3:=zh hq3;have HR3:=zh hr3;have HK3:=zh hk3;clear hq3 hr3 hk3 HSA HG;generalize hRR:w.heap.size=R at*
 have HRW:Hd (w.heap.size=R):=zh hRR;clear hRR
 go_wp2_with fail
 refine (Hr c _).mono ?_;rintro r w' ⟨rfl,hw'⟩;rw [hw'];clear hw';rw [hl]
 go_wp2_with fail
 go_loopg [] (s.size -a) (fun g wr=>∃k f:Nat,a≤k∧k≤s.size∧g=s.size -k∧Hd (Fg s f k=some e)∧wr.heap[R+1]? =some (By 0 ⟨#[]⟩ 0 a k)∧wr.heap[R]? =some (By 0 ⟨#[]⟩ 0 0 0)∧Ac [] w wr)
 case atStart=>exact qfb
 obtain ⟨k,f,hak,hks,rfl,HWE,hR,hQ,hK⟩:=hrel;have HR4:=zh hR;have HQ4:=zh hQ;have HK4:=zh hK;clear hR hQ hK;have d0:=Aa HR4.1 0;have df0:=Ab HR4.1 0;have d1:=Aa HR4.1 1;have df1:=Ab HR4.1 1;have d2:=Aa HR4.1 2;have df2:=Ab HR4.1 2;have d3:=Aa HR4.1 3;have df3:=Ab HR4.1 3;have d4:=Aa HR4.1 4;have df4:=Ab HR4.1 4;simp at d0 d1 d2 d3 d4;have hwe:=HWE.1;clear HWE
 cases f with
 |zero=>simp [Fg] at hwe
 | succ f=>
  rw [Fg] at hwe
  by_cases h4:k<s.size
  ·have hnz:=Ec h4;rw [hnz] at hwe;generalize hzk:((s[k]'h4).toNat:Int)=z at*
   have HNZ:=zh hnz;simp only at hwe;clear hnz
   cases hlz:Db z
   ·cases hdz:Fp z
    ·rw [hlz,hdz] at hwe;simp only [Bool.or_self,Bool.false_eq_true,if_false,Option.some.injEq] at hwe;subst hwe
     go_wp2_with fail
     refine (Hr z _).mono ?_;rintro r w' ⟨rfl,hw'⟩;rw [hw'];clear hw';rw [hlz]
     go_wp2_with fail
     refine (Zn z _).mono ?_;rintro r w' ⟨rfl,hw'⟩;rw [hw'];clear hw';rw [hdz];have ht1:a≤k:=hak
     go_wp2_with fail
     have HR5:Hd (((wr.setCell ⟨R+1,1,none⟩ (.string (s.extract a k))).setCell ⟨R+1,0,none⟩ (.int .i64 5)).heap[R+1]? =some (By 5 (s.extract a k) 0 a k)):=zh zn;have HQ5:Hd (((wr.setCell ⟨R+1,1,none⟩ (.string (s.extract a k))).setCell ⟨R+1,0,none⟩ (.int .i64 5)).heap[R]? =some (By 0 ⟨#[]⟩ 0 0 0)):=zh (Ds qg (Ds qg HQ4.1));have HK5:Hd (Ac [] w ((wr.setCell ⟨R+1,1,none⟩ (.string (s.extract a k))).setCell ⟨R+1,0,none⟩ (.int .i64 5))):=zh (Ac.trans (Ac.trans HK4.1 (fp':= [R+1]) (Ac.setCell _ _ _ _ qg) jl) (fp':= [R+1]) (Ac.setCell _ _ _ _ qg) jl);generalize ((wr.setCell ⟨R+1,1,none⟩ (.string (s.extract a k))).setCell ⟨R+1,0,none⟩ (.int .i64 5))=W5 at*
     have e0:=Aa HR5.1 0;have ef0:=Ab HR5.1 0;have e1:=Aa HR5.1 1;have ef1:=Ab HR5.1 1;have e2:=Aa HR5.1 2;have ef2:=Ab HR5.1 2;have e3:=Aa HR5.1 3;have ef3:=Ab HR5.1 3;have e4:=Aa HR5.1 4;have ef4:=Ab HR5.1 4;simp at e0 e1 e2 e3 e4;refine (Wm _ _).mono ?_;rintro r w' ⟨rfl,hw'⟩;rw [hw'];clear hw'
     cases hW:AV (s.extract a k)
     ·go_wp2_with fail
      refine (Ts _ _).mono ?_;rintro r w' ⟨rfl,hw'⟩;rw [hw'];clear hw'
      cases hB:Ut (s.extract a k)
      ·by_cases h40:z=40
       ·have HKD:=zh (show Il s (s.extract a k) k=6 by simp [Il,hW,hB,HNZ.1,h40]);subst h40;clear hW hB
        go_wp2_with ((with_reducible show wpList _ _ _ (Oper.mk none (.store 90 _ _) _ _ _ _::_) _ _);refine Oa 90 R 0 _ (Ds qg HQ5.1) rfl (.agg #[.int .i64 6,.string (s.extract a k),.float .f64 0,.int .i64 a,.int .i64 k]) rfl qh jj ji ?_)
        intro w9 hs9;have x0:=Aa hs9.row 0;have x1:=Aa hs9.row 1;have x2:=Aa hs9.row 2;have x3:=Aa hs9.row 3;have x4:=Aa hs9.row 4;simp at x0 x1 x2 x3 x4;have hk9:Ac [] w w9:=Ac.trans (Ac.trans HK5.1 (fp':= [R+1]) (Ac.setCell _ _ _ _ qg) jl) hs9.keeps jl;clear hs9
        go_wp2_with fail
        exact zgb
       have HKD:=zh (show Il s (s.extract a k) k=5 by simp [Il,hW,hB,HNZ.1,h40]);have n40:(z==40)=false:=beq_false_of_ne h40;clear hW hB h40
       go_wp2_with ((with_reducible show wpList _ _ _ (Oper.mk none (.store 90 _ _) _ _ _ _::_) _ _);refine Oa 90 R 0 _ HQ5.1 rfl (.agg #[.int .i64 5,.string (s.extract a k),.float .f64 0,.int .i64 a,.int .i64 k]) rfl qh jj ji ?_)
       intro w9 hs9;have x0:=Aa hs9.row 0;have x1:=Aa hs9.row 1;have x2:=Aa hs9.row 2;have x3:=Aa hs9.row 3;have x4:=Aa hs9.row 4;simp at x0 x1 x2 x3 x4;have hk9:Ac [] w w9:=Ac.trans HK5.1 hs9.keeps jl;clear hs9
       go_wp2_with fail
       exact jgb
      have HKD:=zh (show Il s (s.extract a k) k=7 by simp [Il,hW,hB]);clear hW hB
      go_wp2_with ((with_reducible show wpList _ _ _ (Oper.mk none (.store 90 _ _) _ _ _ _::_) _ _);refine Oa 90 R 0 _ (Ds qg HQ5.1) rfl (.agg #[.int .i64 7,.string (s.extract a k),.float .f64 0,.int .i64 a,.int .i64 k]) rfl qh jj ji ?_)
      intro w9 hs9;have x0:=Aa hs9.row 0;have x1:=Aa hs9.row 1;have x2:=Aa hs9.row 2;have x3:=Aa hs9.row 3;have x4:=Aa hs9.row 4;simp at x0 x1 x2 x3 x4;have hk9:Ac [] w w9:=Ac.trans (Ac.trans HK5.1 (fp':= [R+1]) (Ac.setCell _ _ _ _ qg) jl) hs9.keeps jl;clear hs9
      go_wp2_with fail
      exact qgb
     have HKD:=zh (show Il s (s.extract a k) k=8 by simp [Il,hW]);clear hW
     go_wp2_with ((with_reducible show wpList _ _ _ (Oper.mk none (.store 90 _ _) _ _ _ _::_) _ _);refine Oa 90 R 0 _ (Ds qg HQ5.1) rfl (.agg #[.int .i64 8,.string (s.extract a k),.float .f64 0,.int .i64 a,.int .i64 k]) rfl qh jj ji ?_)
     intro w9 hs9;have x0:=Aa hs9.row 0;have x1:=Aa hs9.row 1;have x2:=Aa hs9.row 2;have x3:=Aa hs9.row 3;have x4:=Aa hs9.row 4;simp at x0 x1 x2 x3 x4;have hk9:Ac [] w w9:=Ac.trans (Ac.trans HK5.1 (fp':= [R+1]) (Ac.setCell _ _ _ _ qg) jl) hs9.keeps jl;clear hs9
     go_wp2_with fail
     exact zhb
    rw [hlz,hdz] at hwe;simp only [Bool.or_true,if_true] at hwe;have HWE:=zh hwe;clear hwe
    go_wp2_with fail
    refine (Hr z _).mono ?_;rintro r w' ⟨rfl,hw'⟩;rw [hw'];clear hw';rw [hlz]
    go_wp2_with fail
    refine (Zn z _).mono ?_;rintro r w' ⟨rfl,hw'⟩;rw [hw'];clear hw';rw [hdz]
    go_wp2_with fail
    go_roundg (s.size -(k+1))
    case measure=>omega
    case rel=>exact jhb
   rw [hlz] at hwe;simp only [Bool.true_or,if_true] at hwe;have HWE:=zh hwe;clear hwe
   go_wp2_with fail
   refine (Hr z _).mono ?_;rintro r w' ⟨rfl,hw'⟩;rw [hw'];clear hw';rw [hlz]
   go_wp2_with fail
   go_roundg (s.size -(k+1))
   case measure=>omega
   case rel=>exact jhb
  rw [Em jh] at hwe;simp only [Option.some.injEq] at hwe;subst hwe;have ht1:a≤k:=hak
  go_wp2_with fail
  have HR5:Hd (((wr.setCell ⟨R+1,1,none⟩ (.string (s.extract a k))).setCell ⟨R+1,0,none⟩ (.int .i64 5)).heap[R+1]? =some (By 5 (s.extract a k) 0 a k)):=zh zn;have HQ5:Hd (((wr.setCell ⟨R+1,1,none⟩ (.string (s.extract a k))).setCell ⟨R+1,0,none⟩ (.int .i64 5)).heap[R]? =some (By 0 ⟨#[]⟩ 0 0 0)):=zh (Ds qg (Ds qg HQ4.1));have HK5:Hd (Ac [] w ((wr.setCell ⟨R+1,1,none⟩ (.string (s.extract a k))).setCell ⟨R+1,0,none⟩ (.int .i64 5))):=zh (Ac.trans (Ac.trans HK4.1 (fp':= [R+1]) (Ac.setCell _ _ _ _ qg) jl) (fp':= [R+1]) (Ac.setCell _ _ _ _ qg) jl);generalize ((wr.setCell ⟨R+1,1,none⟩ (.string (s.extract a k))).setCell ⟨R+1,0,none⟩ (.int .i64 5))=W5 at*
  have e0:=Aa HR5.1 0;have ef0:=Ab HR5.1 0;have e1:=Aa HR5.1 1;have ef1:=Ab HR5.1 1;have e2:=Aa HR5.1 2;have ef2:=Ab HR5.1 2;have e3:=Aa HR5.1 3;have ef3:=Ab HR5.1 3;have e4:=Aa HR5.1 4;have ef4:=Ab HR5.1 4;simp at e0 e1 e2 e3 e4;refine (Wm _ _).mono ?_;rintro r w' ⟨rfl,hw'⟩;rw [hw'];clear hw'
  cases hW:AV (s.extract a k)
  ·go_wp2_with fail
   refine (Ts _ _).mono ?_;rintro r w' ⟨rfl,hw'⟩;rw [hw'];clear hw'
   cases hB:Ut (s.extract a k)
   ·have HKD:=zh (show Il s (s.extract a k) k=5 by simp [Il,hW,hB,Em (Nat.le_of_not_lt h4)]);clear hW hB
    go_wp2_with ((with_reducible show wpList _ _ _ (Oper.mk none (.store 90 _ _) _ _ _ _::_) _ _);refine Oa 90 R 0 _ HQ5.1 rfl (.agg #[.int .i64 5,.string (s.extract a k),.float .f64 0,.int .i64 a,.int .i64 k]) rfl qh jj ji ?_)
    intro w9 hs9;have x0:=Aa hs9.row 0;have x1:=Aa hs9.row 1;have x2:=Aa hs9.row 2;have x3:=Aa hs9.row 3;have x4:=Aa hs9.row 4;simp at x0 x1 x2 x3 x4;have hk9:Ac [] w w9:=Ac.trans HK5.1 hs9.keeps jl;clear hs9
    go_wp2_with fail
    exact jgb
   have HKD:=zh (show Il s (s.extract a k) k=7 by simp [Il,hW,hB]);clear hW hB
   go_wp2_with ((with_reducible show wpList _ _ _ (Oper.mk none (.store 90 _ _) _ _ _ _::_) _ _);refine Oa 90 R 0 _ (Ds qg HQ5.1) rfl (.agg #[.int .i64 7,.string (s.extract a k),.float .f64 0,.int .i64 a,.int .i64 k]) rfl qh jj ji ?_)
   intro w9 hs9;have x0:=Aa hs9.row 0;have x1:=Aa hs9.row 1;have x2:=Aa hs9.row 2;have x3:=Aa hs9.row 3;have x4:=Aa hs9.row 4;simp at x0 x1 x2 x3 x4;have hk9:Ac [] w w9:=Ac.trans (Ac.trans HK5.1 (fp':= [R+1]) (Ac.setCell _ _ _ _ qg) jl) hs9.keeps jl;clear hs9
   go_wp2_with fail
   exact qgb
  have HKD:=zh (show Il s (s.extract a k) k=8 by simp [Il,hW]);clear hW
  go_wp2_with ((with_reducible show wpList _ _ _ (Oper.mk none (.store 90 _ _) _ _ _ _::_) _ _);refine Oa 90 R 0 _ (Ds qg HQ5.1) rfl (.agg #[.int .i64 8,.string (s.extract a k),.float .f64 0,.int .i64 a,.int .i64 k]) rfl qh jj ji ?_)
  intro w9 hs9;have x0:=Aa hs9.row 0;have x1:=Aa hs9.row 1;have x2:=Aa hs9.row 2;have x3:=Aa hs9.row 3;have x4:=Aa hs9.row 4;simp at x0 x1 x2 x3 x4;have hk9:Ac [] w w9:=Ac.trans (Ac.trans HK5.1 (fp':= [R+1]) (Ac.setCell _ _ _ _ qg) jl) hs9.keeps jl;clear hs9
  go_wp2_with fail
  exact zhb):p:=h
theorem qld{p:Prop}(h:p:=by
 refine XF ?_;rintro w1 ⟨Kw1,cw1_B⟩;have ⟨n_c_B,n_B_c⟩:=Ai l_c;have ⟨n_mf_B,n_B_mf⟩:=Ai l_mf;have ⟨n_ms_B,n_B_ms⟩:=Ai l_ms;have ⟨n_mn_B,n_B_mn⟩:=Ai l_mn;have o_B:w.heap.size≤w.heap.size:=Nat.le_refl _;have off_B:Fu K T (w.heap.size):=Ao HC0.1 (Nat.le_refl _);have o0_B:K.w0.heap.size≤w.heap.size:=Nat.le_trans HC0.1.keep.size (Nat.le_refl _);have HCw1:=zh (HC0.1.kp0 Kw1);have HSw1:=zh (HS0.1.loc Kw1 qg);have Rw1_B:=zh cw1_B;clear Kw1 cw1_B l_c l_mf l_ms l_mn HC0 HS0
 go_cut [] (fun W=>∃T' ua' uc',CK K T' ua' uc' st1 W∧Ak K T T' w W∧W.heap[w.heap.size]? =some (.cells #[.int .i64 kd,.string tx,.float .f64 fm,.slice na kids.length nc,.complex .f64 re im] 50 (0,0))∧Fu K T' (w.heap.size))
 case first=>
  clear HKD HREC HCF;have h5:=H5.1;subst h5;rw [Km,if_neg qg,if_pos qg] at hpre;obtain ⟨l_c,l_mf,l_ms,l_mn⟩:=HCw1.1.lt;obtain ⟨l_B,xB⟩:=Bv Rw1_B.1
  go_wp2_with fail
  clear l_c l_B xB l_mf l_ms l_mn;refine zcd ?_;rintro r e21 ⟨T21,ua21,uc21,rfl,hc,hs⟩;have off2_B:=hs.off (Ad Rw1_B.1) off_B;have Re21_B:=zh (hs.at Rw1_B.1 off_B);have off_B':=off2_B;have HCe21:=zh hc;have HSe21:=zh (HSw1.1.trans hs);clear Rw1_B off_B HCw1 HSw1 hc hs;have off_B:=off_B';clear off_B' off2_B;obtain ⟨l_c,xc⟩:=Cp HCe21.1.row;obtain ⟨-,l_mf,l_ms,l_mn⟩:=HCe21.1.lt;obtain ⟨l_B,xB⟩:=Bv Re21_B.1;obtain ⟨oo,hoo⟩:=ofX HNR K.g st tx;rw [←hoo] at hpre;obtain ⟨hul,rfl⟩:=Jh hpre;have HUL:=zh hul;have HOO:=zh hoo;clear hul hoo hpre
  go_upto_region 10 with fail
  obtain ⟨i1,hi1,hi2,hi3,hi4⟩:=Oi;have HI:=zh (And.intro hi1 (And.intro hi2 (And.intro hi3 hi4)));clear hi1 hi2 hi3 hi4;have HOF:=zh (IQ hK HCe21.1 tx);rw [←HOO.1] at HOF;have hul0:=ulX HOO.1
  try clear hcf
  try clear kc0
  try clear kc1
  try clear kc2
  try clear kc3
  try clear kc4
  try clear hcs
  try clear hcp
  try clear hlk
  try clear HREC
  try clear HKD
  try clear HSP
  try clear HFA
  try clear HFN
  try clear HFI
  try clear HCF
  try clear hkn
  try clear hm
  try clear hkl
  try clear hlt
  try clear hlt2
  try clear lg2
  try clear lg3
  try clear e4
  try clear e5
  try clear hk1
  try clear hi
  try clear o0_B
  try clear o_B
  try clear n_c_B
  try clear n_mf_B
  try clear n_ms_B
  try clear n_mn_B
  try clear n_B_c
  try clear n_B_mf
  try clear n_B_ms
  try clear n_B_mn
  try clear e19
  try clear e20
  try clear e11
  try clear e41
  try clear e32
  try clear e33
  try clear e34
  try clear e35
  try clear e4
  try clear e5
  try clear f19
  try clear f20
  try clear f11
  try clear f41
  try clear f32
  try clear f33
  try clear f34
  try clear f35
  try clear f4
  try clear f5
  try clear HNR
  go_region_law (first|((fail_if_success (have hm9:=hcu));refine Bd (f:=75) (vals:= #[.pointer (some ⟨K.c,0,none⟩),.string tx]) rfl _ rfl qh (HOF.1 _ jg) ?_;rintro v u_ ⟨rfl,hcu,hsu⟩;have l_c2:=Ad hcu.row;have q0:=Aa hcu.row 0;have q1:=Aa hcu.row 1;have q2:=Aa hcu.row 2;have q3:=Aa hcu.row 3;have q4:=Aa hcu.row 4;have q5:=Aa hcu.row 5;have q6:=Aa hcu.row 6;have q7:=Aa hcu.row 7;have q8:=Aa hcu.row 8;have q9:=Aa hcu.row 9;have q10:=Aa hcu.row 10;simp at q0 q1 q2 q3 q4 q5 q6 q7 q8 q9 q10;have r_B:=hsu.at Re21_B.1 off_B;have lr_B:=Ad r_B;have zB_0:=Aa r_B 0;have zB_1:=Aa r_B 1;have zB_2:=Aa r_B 2;have zB_3:=Aa r_B 3;have zB_4:=Aa r_B 4;simp at zB_0 zB_1 zB_2 zB_3 zB_4)|(refine Gr (fun W=>Ac [] u_ W∧W.heap[u_.heap.size]? =some (.cells #[.complex .f64 re im,.int .i64 oo.1.1,.string oo.1.2,.bool true,.int .i64 0,.string ⟨#[]⟩,.bool false,.bool false] 106 (0,0))) ⟨jg,qd⟩ ?_;rintro wq ⟨hkq,cG⟩;refine Fk Ui rfl (.tmp 41) (.tmp 49) 68 rfl Tryz.underlying68 HI.1.1 HI.1.2.1 HI.1.2.2.1 HI.1.2.2.2 rfl zi zi rfl rfl (hcu.kp0 hkq).uses (c:= [.complex .f64 re im,.int .i64 oo.1.1,.string oo.1.2,.bool true,.int .i64 0,.string ⟨#[]⟩,.bool false,.bool false]) cG (x:=(⟨re,im,oo.1,true,Gs,false,false⟩:Kf)) (S:=fun _=>False) rfl (fun _ h=>h.elim) (fun _ h=>h.elim) (hcu.kp0 hkq).up (hcu.kp0 hkq).keep.size (Nat.le_of_lt HUL.1) ?_;rintro va wa fl hfl hka hown;obtain ⟨ka2,kc2,hva,-⟩:=hown.slice;obtain ⟨kn,hkn⟩:∃k,k=((oo.2).uses++ [(⟨re,im,oo.1,true,Gs,false,false⟩:Kf)]).length:=⟨_,rfl⟩;rw [←hkn] at hva;subst hva;have HKN:=zh hkn;clear hkn;have r_c:=hka.at (hcu.kp0 hkq).row (fun h=>(hcu.kp0 hkq).ns.1 (hfl _ h));have lw_c:=Ad r_c;have z0:=Aa r_c 0;have z1:=Aa r_c 1;have z2:=Aa r_c 2;have z3:=Aa r_c 3;have z4:=Aa r_c 4;have z5:=Aa r_c 5;have z6:=Aa r_c 6;have z7:=Aa r_c 7;have z8:=Aa r_c 8;have z9:=Aa r_c 9;have z10:=Aa r_c 10;have zf0:=Ab r_c 0;have zf1:=Ab r_c 1;have zf2:=Ab r_c 2;have zf3:=Ab r_c 3;have zf4:=Ab r_c 4;have zf5:=Ab r_c 5;have zf6:=Ab r_c 6;have zf7:=Ab r_c 7;have zf8:=Ab r_c 8;have zf9:=Ab r_c 9;have zf10:=Ab r_c 10;simp at z0 z1 z2 z3 z4 z5 z6 z7 z8 z9 z10))
  all_goals
   go_wp2_with fail
   go_meet
   have hkn:=HKN.1;subst hkn;exact jcd
 obtain ⟨T1,ua1,uc1,hc,hs,hB,off_B⟩:=hcut;generalize wc=wl at*
 have HCl:=zh hc;have HSl:=zh hs;have RBl:=zh hB;clear hc hs hB hpre HNR HCw1 HSw1 Rw1_B;obtain ⟨l_c,l_mf,l_ms,l_mn⟩:=HCl.1.lt;obtain ⟨l_B,xB⟩:=Bv RBl.1
 go_wp2_with fail
 clear l_c l_B xB l_mf l_ms l_mn
 go_loopg [144] (kids.length+1) (fun g j wr=>JR K rec kids st' T w (w.heap.size) (.cells #[.int .i64 kd,.string tx,.float .f64 fm,.slice na kids.length nc,.complex .f64 re im] 50 (0,0)) g j wr)
 case atStart=>exact qcd
 obtain ⟨k,rfl,hk1,hk2,st2,T2,ua2,uc2,hcf,hc,hs,hB,off_B⟩:=hrel;have HCr:=zh hc;have HSr:=zh hs;have RB:=zh hB;clear hc hs hB
 by_cases hlt:k<kids.length
 ·obtain ⟨g3,o3,fm3,na3,nc3,hna,kc0,kc1,kc2,kc3,kc4,hkn⟩:=CK.kid HCr.1 HKD.1 hlt;subst hna;have lg3:g3<wr.heap.size:=Cd kc0;rw [List.drop_eq_getElem_cons hlt,Lj] at hcf;generalize kids[k]=kk at*
  simp only [Option.bind_eq_bind,Option.bind_eq_some_iff] at hcf;obtain ⟨s3,hr,hcf⟩:=hcf
  cases gk with
  |zero=>omega
  |succ f=>
   obtain ⟨l_c,l_mf,l_ms,l_mn⟩:=HCr.1.lt;obtain ⟨l_B,xB⟩:=Bv RB.1
   go_wp2_with fail
   refine YG ?_;rintro w51 ⟨Kw51,cw51_Kd⟩;have ⟨n_c_Kd,n_Kd_c⟩:=Ai l_c;have ⟨n_mf_Kd,n_Kd_mf⟩:=Ai l_mf;have ⟨n_ms_Kd,n_Kd_ms⟩:=Ai l_ms;have ⟨n_mn_Kd,n_Kd_mn⟩:=Ai l_mn;have ⟨n_B_Kd,n_Kd_B⟩:=Ai l_B;have o_Kd:w.heap.size≤wr.heap.size:=HSr.1.size;have off_Kd:Fu K T2 (wr.heap.size):=Ao HCr.1 (Nat.le_refl _);have o0_Kd:K.w0.heap.size≤wr.heap.size:=Nat.le_trans HCr.1.keep.size (Nat.le_refl _);have Rw51_B:=zh (Kw51.at RB.1 qg);have HCw51:=zh (HCr.1.kp0 Kw51);have HSw51:=zh (HSr.1.loc Kw51 qg);have Rw51_Kd:=zh cw51_Kd;clear Kw51 cw51_Kd l_c l_B xB l_mf l_ms l_mn RB HCr HSr;refine jrc ?_;rintro r e52 ⟨T52,ua52,uc52,rfl,hc,hs⟩;have off2_B:=hs.off (Ad Rw51_B.1) off_B;have Re52_B:=zh (hs.at Rw51_B.1 off_B);have off2_Kd:=hs.off (Ad Rw51_Kd.1) off_Kd;have Re52_Kd:=zh (hs.at Rw51_Kd.1 off_Kd);have off_B':=off2_B;have off_Kd':=off2_Kd;have HCe52:=zh hc;have HSe52:=zh (HSw51.1.trans hs);clear Rw51_B off_B Rw51_Kd off_Kd HCw51 HSw51 hc hs;have off_B:=off_B';clear off_B' off2_B;have off_Kd:=off_Kd';clear off_Kd' off2_Kd;obtain ⟨l_c,l_mf,l_ms,l_mn⟩:=HCe52.1.lt;have l_B:=Ad Re52_B.1;have l_Kd:=Ad Re52_Kd.1
   go_wp2_with fail
   go_roundg f
   case measure=>omega
   exact zbd
 have hke:k=kids.length:=by omega
 subst hke;rw [List.drop_length,Lj] at hcf;obtain rfl:st2=st':=by simpa using hcf
 clear hcf;obtain ⟨l_c,l_mf,l_ms,l_mn⟩:=HCr.1.lt;have l_B:=Ad RB.1
 go_wp2_with fail
 refine Cq (v:= .tuple #[]) (fun W=>Ac [] wr W) jg (fun w51 hW=> ?_) rfl (fun w51 hW=> ?_)
 ·have Kw51:Ac [] wr w51:=hW;exact Le
 have Kw51:Ac [] wr w51:=hW;have Rw51_B:=zh (Kw51.at RB.1 qg);have HCw51:=zh (HCr.1.kp0 Kw51);have HSw51:=zh (HSr.1.loc Kw51 qg);clear Kw51 l_c l_B l_mf l_ms l_mn RB HCr HSr;exact ZO):p:=h
theorem Ec{s:ByteArray}{k:Nat}(h:k<s.size):Nc s k=some ((s[k]'h).toNat:Int):=by simp [Nc,h]
theorem Em{s:ByteArray}{k:Nat}(h:s.size≤k):Nc s k=none:=by simp [Nc];omega
theorem Ct(a b:ByteArray):(a.toList==b.toList)=same a b:=by
 rw [ByteArray.toList_eq,ByteArray.toList_eq];rfl
theorem Cv{a b:ByteArray}:same a b=true↔a=b:=by
 unfold same
 constructor
 ·intro h;have h1:a.data.toList=b.data.toList:=by simpa using h
  have h2:a.data=b.data:=Array.toList_inj.1 h1
  cases a;cases b;simp_all
 rintro rfl;simp
set_option maxHeartbeats 1000000 in
theorem Hr(z:Int)(w:World):Calls Tryz.prog 92 #[.int .u8 z] w fun e w'=>e= .returned (.bool (Db z))∧w'=w:=by
 by_cases h1:65≤z
 ·by_cases h2:z≤90
  ·have hz:Db z=true:=by simp [Db,h1,h2]
   exact ZP
  have e1:decide (z≤90)=false:=by simp [h2]
  by_cases h3:97≤z
  ·by_cases h4:z≤122
   ·have hz:Db z=true:=by simp [Db,h3,h4]
    exact ZP
   have e4:decide (z≤122)=false:=by simp [h4]
   have e5:(z==95)=false:=by simp;omega
   have hz:Db z=false:=by simp only [Db,e1,e4,e5];simp
   exact ZP
  have e3:decide (97≤z)=false:=by simp [h3]
  have hz:Db z=(z==95):=by simp only [Db,e1,e3];simp
  exact ZP
 have e1:decide (65≤z)=false:=by simp [h1]
 have e3:decide (97≤z)=false:=by simp;omega
 have e5:(z==95)=false:=by simp;omega
 have hz:Db z=false:=by simp only [Db,e1,e3,e5];simp
 exact ZP
set_option maxHeartbeats 1000000 in
theorem Zn(z:Int)(w:World):Calls Tryz.prog 93 #[.int .u8 z] w fun e w'=>e= .returned (.bool (Fp z))∧w'=w:=by
 by_cases h1:48≤z
 ·have hz:Fp z=decide (z≤57):=by simp [Fp,h1]
  rw [hz];clear hz
  go_enter Tryz.func93,Tryz.ntmps93
  go_wp2_with fail
  go_ret
  exact Qd
 have e1:decide (48≤z)=false:=by simp [h1]
 have hz:Fp z=false:=by simp only [Fp,e1];simp
 rw [hz];clear hz
 go_enter Tryz.func93,Tryz.ntmps93
 go_wp2_with fail
 go_ret
 exact Qd
theorem Xn{s v:ByteArray}{k fr:Nat}(hk:k≤s.size)(h:k=s.size∨Nc s k=some 32):Iz s v (s.size+1 -k) k fr=(same (s.extract fr k) v||Iz s v (s.size+1 -(k+1)) (k+1) (k+1)):=by
 have e:s.size+1 -k=(s.size+1 -(k+1))+1:=by omega
 rw [e,Iz]
 rcases h with h|h
 ·rw [Em jh]
 rw [h];simp
theorem MO{s v:ByteArray}{k fr:Nat}{z:Int}(hk:k<s.size)(h:Nc s k=some z)(hz:z≠32):Iz s v (s.size+1 -k) k fr=Iz s v (s.size+1 -(k+1)) (k+1) fr:=by
 have e:s.size+1 -k=(s.size+1 -(k+1))+1:=by omega
 rw [e,Iz,h];simp [hz]
set_option maxHeartbeats 1000000 in
theorem Fl(s v:ByteArray)(hs:s.size≤1000000)(w:World):Calls Tryz.prog 88 #[.string s,.string v] w fun e w'=>e= .returned (.bool (Gj s v))∧w'=w:=by
 obtain ⟨r,hr⟩:∃r,Gj s v=r:=⟨_,rfl⟩;rw [hr];have HR:=zh hr;clear hr
 go_enter Tryz.func88,Tryz.ntmps88
 go_wp2_with fail
 go_loop [5,6] (fun fv iv=>∃k fr:Nat,k≤s.size+1∧fr≤k∧iv= .int .i64 k∧fv= .int .i64 fr∧Hd (Iz s v (s.size+1 -k) k fr=r)) (fun _ iv=>s.size+1 -(intOf iv).toNat)
 case atStart=>exact ⟨0,0,by omega,by omega,rfl,rfl,zh HR.1⟩
 obtain ⟨k,fr,hk,hfr,rfl,rfl,HA⟩:=hrel
 by_cases h1:k≤s.size
 ·by_cases h2:k=s.size
  ·subst h2;have ha:=HA.1;rw [Xn h1 (.inl rfl)] at ha;rw [←Ct] at ha
   cases hB:((s.extract fr s.size).toList==v.toList)
   ·rw [hB] at ha;have HA':=zh ha;clear ha HA
    go_wp2_with fail
    exact ⟨⟨s.size+1,s.size+1,by omega,by omega,by go_num,by go_num,by simpa using HA'⟩,by simp [intOf]<;>omega⟩
   rw [hB] at ha;have HA':=zh ha;clear ha HA
   go_wp2_with fail
   go_ret
   exact zfb
  have h3:k<s.size:=by omega
  have hnz:=Ec h3;generalize hz:((s[k]'h3).toNat:Int)=z at*
  have e32:(z==32)=decide (z=32):=by by_cases h:z=32<;>simp [h]
  by_cases h4:z=32
  ·subst h4;have ha:=HA.1;rw [Xn h1 (.inr hnz)] at ha;rw [←Ct] at ha;clear hnz e32
   cases hB:((s.extract fr k).toList==v.toList)
   ·rw [hB] at ha;have HA':=zh ha;clear ha HA
    go_wp2_with fail
    exact ⟨⟨k+1,k+1,by omega,by omega,by go_num,by go_num,by simpa using HA'⟩,by simp [intOf]<;>omega⟩
   rw [hB] at ha;have HA':=zh ha;clear ha HA
   go_wp2_with fail
   go_ret
   exact zfb
  have ha:=HA.1;rw [MO h3 hnz h4] at ha;have HA':=zh ha;clear ha HA hnz
  go_wp2_with fail
  exact ⟨⟨k+1,fr,by omega,by omega,by go_num,rfl,HA'⟩,by simp [intOf]<;>omega⟩
 have ha:=HA.1;have e:s.size+1 -k=0:=by omega
 rw [e,Iz] at ha;have HA':=zh ha;clear ha HA e
 go_wp2_with fail
 go_ret
 exact zfb
end Go.Proofs.YtkfillfkbhbbjaaGreatDoor
