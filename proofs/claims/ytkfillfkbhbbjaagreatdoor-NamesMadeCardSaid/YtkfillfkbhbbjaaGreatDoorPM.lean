/- PROVED HERE: NamesMade returns true for every slice of integers, called in whatever memory; its argument reads afterwards as before. Its condition: the listed tables of Go's library start as their text lays them (the card ties them). No other condition. -/
import Derived.Test.YtkfillfkbhbbjaaGreatDoorNamA
import Derived.Test.YtkfillfkbhbbjaaGreatDoorMkR
import Derived.Test.YtkfillfkbhbbjaaGreatDoorMkU
import Derived.Test.YtkfillfkbhbbjaaGreatDoorRows
import Derived.ProofKit
import Derived.OpenShut
import Derived.LaidMore
import Derived.Lay
import Derived.Test.YtkfillfkbhbbjaaGreatDoorParD
import Derived.Test.YtkfillfkbhbbjaaGreatDoorTie
import Derived.Test.YtkfillfkbhbbjaaGreatDoorCards
import Derived.SevenTiedAt
import Derived.Stop.Joined
import Derived.Deep.Slices
set_option maxRecDepth 100000
set_option maxHeartbeats 4000000
set_option linter.unusedSimpArgs false
set_option linter.unusedVariables false
namespace Go.Proofs.YtkfillfkbhbbjaaGreatDoor
open Go.RowKit
structure BQ (w:World) (la:Option Addr) (ln:Nat) (tb:Nat→Nat→ByteArray) (tn:Nat→Nat):Prop where
 low:8≤w.heap.size
 tab:∀g j,g<8→j<Mu g→w.cell? ⟨g,j,none⟩=some (.string (tb g j))
 num:∀j,j<8→w.cell? ⟨4,j,none⟩=some (.float .f64 (tn j))
 ints:∀j,j<ln→∃g o z,la=some ⟨g,o,none⟩∧g<w.heap.size∧w.cell? ⟨g,o+j,none⟩=some (.int .i64 z)∧-9223372036854775808≤z∧z≤9223372036854775807
 lnb:ln≤9223372036854775807
theorem BQ.kp{w W:World}{la:Option Addr}{ln:Nat}{tb:Nat→Nat→ByteArray}{tn:Nat→Nat}(h:BQ w la ln tb tn)(hk:Ac [] w W):BQ W la ln tb tn:=by
 have hc:∀g j,g<w.heap.size→W.cell? ⟨g,j,none⟩=w.cell? ⟨g,j,none⟩:=fun g j hg=>World.cell?_of_block (w:=w) (a:=⟨g,j,none⟩) (hk.block g hg qg)
 have h8:=h.low;refine ⟨Nat.le_trans h8 hk.size,fun g j hg hj=> ?_,fun j hj=> ?_,fun j hj=> ?_,h.lnb⟩
 ·rw [hc g j jh];exact h.tab g j hg hj
 ·rw [hc 4 j jh];exact h.num j hj
 obtain ⟨g,o,z,h1,h2,h3,h4⟩:=h.ints j hj;exact ⟨g,o,z,h1,Nat.lt_of_lt_of_le h2 hk.size,by rw [hc g _ h2];exact h3,h4⟩
theorem PB{w:World}{la:Option Addr}{ln lc:Nat}{tb:Nat→Nat→ByteArray}{tn:Nat→Nat}(hg:Gl w)(hin:BQ w la ln tb tn):Calls Tryz.prog 4 #[.slice la ln lc] w fun r w'=>r= .returned (.bool true)∧Ac [] w w':=by
 have HPR:Hd (∀W,Ac [] w W→Calls Tryz.prog 14 #[.slice la ln lc] W fun r w'=>∃g v,r= .returned v∧Iu w' (fun x=>W.heap.size≤x) g v∧VT g∧Ac [] W w'):=zh fun W hk=>by
  have h:=hin.kp hk;exact CN (M:=⟨W.heap.size+1,la,ln,lc,W,tb,tn⟩) ⟨h.low,Nat.le_succ _,h.tab,h.num,h.ints,h.lnb⟩ rfl rfl
 have HK:=zh (LJ hg);clear hg hin
 go_enter Tryz.func4,Tryz.ntmps4
 go_wp2_with fail
 refine (HK.1).mono ?_;rintro r w1 ⟨rfl,hk⟩;have HK1:=zh hk;clear hk HK
 go_wp2_with fail
 refine (HPR.1 _ HK1.1).mono ?_;rintro r w2 ⟨g,v,rfl,hv,hok,hk⟩;have HV:=zh hv;have HOK:=zh hok;have HK2:=zh (HK1.1.trans hk qg);obtain ⟨ra,rc,fa,fc,rfl,-,-⟩:=hv;clear hok hk HPR HK1
 go_wp2_with fail
 refine (NN HV.1 HOK.1.wf (fun r hr=>(HOK.1.rules r hr).2.2) (NI HOK.1)).mono ?_;rintro r w3 ⟨rfl,hk⟩;have HK3:=zh (HK2.1.trans hk qg);clear hk
 go_wp2_with fail
 refine Ap (v:= .bool true) (fun W=>Ac [] w3 W) Av (fun W hW=>by simp [results,Jo,go_sem]) rfl (fun W hW=>⟨rfl,HK3.1.trans hW qg⟩)
end Go.Proofs.YtkfillfkbhbbjaaGreatDoor
namespace Go.Proofs.YtkfillfkbhbbjaaGreatDoor.namesMade
open Go.ChangeShapes Go.WideShapes Go.ChangeAt Go.RowKit Go.WideMaps Go.WideElems
theorem XR:joinedFacts Tryz.prog 4 Tryz.f4 Rows.namesMadeSpec Rows.namesMadeRow=true:=by
 unfold joinedFacts;simp only [Bool.and_eq_true]
 repeat' apply And.intro
 all_goals (as_aux_lemma=>kernel_rfl)
theorem VY:Tryz.prog.funcNamed Rows.namesMadeRow.func=some 4:=by kernel_rfl
theorem Aay:Tryz.f4.isInstance Tryz.prog Rows.namesMadeRow.origin Rows.namesMadeRow.targs:=of_decide_eq_true (by kernel_rfl)
theorem wrap:Tryz.f4.isWrapper Tryz.prog Rows.namesMadeRow.wrapper Rows.namesMadeRow.mainSum:=by unfold Func.isWrapper;first|(rw [if_pos (by decide+kernel)];kernel_rfl)|(rw [if_neg (by decide+kernel)];exact ⟨rfl,rfl⟩)
end Go.Proofs.YtkfillfkbhbbjaaGreatDoor.namesMade
namespace Go.Proofs.YtkfillfkbhbbjaaGreatDoor
open Go.ChangeShapes Go.WideShapes Go.ChangeAt Go.RowKit Go.WideMaps Go.WideElems
theorem Hg{P:Program}{w:World}:∀{l:List (String×DataW Unit)} {ps:List MemPlace},DataW.LaidVars P w l ps→∀{x:String×DataW Unit},x∈l→
  ∃g t cs fuel p,P.globalNamed x.1=some g∧(P.globals[g]?).map (·.type)=some t∧w.var? P x.1=some cs∧DataW.trod (fun _=>()) P w 0 (fun _=>true) false fuel t cs.toList=some (x.2,p)
 | [],_,_,x,hx=>by cases hx
 | (n,d)::r,ps,h,x,hx=>by
   obtain ⟨g,t,cs,fuel,p,q,h1,h2,h3,h4,h5,_⟩:=h
   rcases List.mem_cons.1 hx with rfl|hx
   ·exact ⟨g,t,cs,fuel,p,h1,h2,h3,h4⟩
   exact Hg h5 hx
theorem GM:Tryz.prog.cellsOf 178=1:=by kernel_rfl
theorem GD{W:World}{l:List (String×DataW Unit)}(h:laidMetH Tryz.prog l W)(hh:(l.all fun x=>x.2.handleName?.isNone)=true)(h1:("internal/strconv.optimize",Rows.laid_internal_strconv_optimize)∈l)(h2:("internal/strconv.float64info",Rows.laid_internal_strconv_float64info)∈l):Gl W:=by
 rw [MakeChecks.laidMetH_plain _ _ _ hh] at h;obtain ⟨ps,h,-⟩:=h;obtain ⟨g,t,cs,fuel,p,hg,ht,hv,hd⟩:=Hg h h1;obtain ⟨g2,t2,cs2,fuel2,p2,hg2,ht2,hv2,hd2⟩:=Hg h h2;obtain rfl:=Option.some.inj ((show Tryz.prog.globalNamed "internal/strconv.optimize" =some 12 by kernel_rfl).symm.trans hg);obtain rfl:=Option.some.inj ((show Tryz.prog.globalNamed "internal/strconv.float64info" =some 14 by kernel_rfl).symm.trans hg2);obtain rfl:=Option.some.inj ((show (Tryz.prog.globals[12]?).map (·.type)=some 4 by kernel_rfl).symm.trans ht);obtain rfl:=Option.some.inj ((show (Tryz.prog.globals[14]?).map (·.type)=some 265 by kernel_rfl).symm.trans ht2);obtain ⟨b,hb,hx⟩:=DataW.trod_bool Tryz.underlying4 hd
 have hb2:b=true:=by
  have e:(DataW.lit (.bool true):DataW Unit)= .lit (.bool b):=(Prod.mk.inj hx).1
  simpa using e.symm
 subst hb2
 have c12:W.cell? ⟨12,0,none⟩=some (.bool true):=by
  rw [World.var?_cell hg hv 0];have:cs.toList[0]? =some (.bool true):=by rw [hb];rfl
  simpa using this
 obtain ⟨xs,n2,_,hxe,_,hxl,hfld⟩:=DataW.trod_struct Tryz.underlying265 hd2;have f0:DataW.trod (fun _=>()) Tryz.prog W 0 (fun _=>true) false n2 178 ((cs2.toList.drop 0).take (Tryz.prog.cellsOf 178))=xs[0]? :=hfld 0 _ rfl;rw [GM] at f0;have hxl3:xs.length=3:=hxl;have hx0:xs[0]? =some (xs[0]'jh):=List.getElem?_eq_getElem _;rw [hx0] at f0;obtain ⟨z,e1,e2,_⟩:=DataW.trod_int Tryz.underlying178 f0;have e3:(xs.map (·.1))= [.lit (.int .u64 52),.lit (.int .u64 11),.lit (.int .i64 (-1023))]:=(DataW.agg.inj (Prod.mk.inj hxe).1).symm;have e4:(xs.map (·.1))[0]? =some (.lit (.int .u64 52)):=by rw [e3];rfl
 rw [List.getElem?_map,hx0,e2] at e4;have hz:z=52:=by simpa using e4
 subst hz
 have c14:W.cell? ⟨14,0,none⟩=some (.int .u64 52):=by
  rw [World.var?_cell hg2 hv2 0];have h0:((cs2.toList.drop 0).take 1)[0]? =some (.int .u64 52):=by rw [e1];rfl
  simpa using h0
 exact ⟨c12,c14,World.block_lt_of_cell? W ⟨14,0,none⟩ c14⟩
theorem own:ownKnob Tryz.prog.godebug=none:=by kernel_rfl
theorem UJ:laidOutB Tryz.prog=true:=by kernel_rfl
open Go.ChangeShapes Go.WideShapes Go.ChangeAt Go.RowKit Go.WideMaps Go.WideElems
theorem QP:Tryz.prog.cellsOf 9=1:=by kernel_rfl
theorem MD:Tryz.prog.cellsOf 48=1:=by kernel_rfl
theorem XT:Tryz.prog.cellsOf 3=1:=by kernel_rfl
theorem MX{H:Type}{enc:TypeId×Value→H}{P:Program}{w:World}{base fuel:Nat}{held:Nat→Bool}{spare:Bool}{t:TypeId}{cs:List Value}{x:DataW H×List MemPlace}(ht:P.underlying t=some (.float .f64))(h:DataW.trod enc P w base held spare fuel t cs=some x):∃n,cs= [.float .f64 n]:=by
 cases fuel with
 |zero=>simp [DataW.trod] at h
 |succ n=>
  unfold DataW.trod at h;rw [ht] at h
  split at h<;>simp_all
theorem Lt{W:World}{l:List (String×DataW Unit)}{ps:List MemPlace}(h:DataW.LaidVars Tryz.prog W l ps){x:String×DataW Unit}(hx:x∈l){g t n:Nat}(hg:Tryz.prog.globalNamed x.1=some g)(ht:(Tryz.prog.globals[g]?).map (·.type)=some t)(hu:Tryz.prog.underlying t=some (.array n 9)){j:Nat}(hj:j<n):∃s,W.cell? ⟨g,j,none⟩=some (.string s):=by
 obtain ⟨g',t',cs,fuel,p,hg',ht',hv,hd⟩:=Hg h hx;obtain rfl:=Option.some.inj (hg.symm.trans hg');obtain rfl:=Option.some.inj (ht.symm.trans ht');obtain ⟨xs,m,_,_,hl,hxl,hel⟩:=DataW.trod_array hu hd;have h1:=hel j hj;rw [QP,List.getElem?_eq_getElem jh] at h1;obtain ⟨s,hs,_⟩:=DataW.trod_string Tryz.underlying9 h1;refine ⟨s, ?_⟩;rw [World.var?_cell hg hv j];have h2:((cs.toList.drop (j*1)).take 1)[0]? =some (.string s):=by rw [hs];rfl
 simpa [List.getElem?_take,List.getElem?_drop] using h2
theorem SF{W:World}{l:List (String×DataW Unit)}{ps:List MemPlace}(h:DataW.LaidVars Tryz.prog W l ps){x:String×DataW Unit}(hx:x∈l){g t n:Nat}(hg:Tryz.prog.globalNamed x.1=some g)(ht:(Tryz.prog.globals[g]?).map (·.type)=some t)(hu:Tryz.prog.underlying t=some (.array n 48)){j:Nat}(hj:j<n):∃s,W.cell? ⟨g,j,none⟩=some (.float .f64 s):=by
 obtain ⟨g',t',cs,fuel,p,hg',ht',hv,hd⟩:=Hg h hx;obtain rfl:=Option.some.inj (hg.symm.trans hg');obtain rfl:=Option.some.inj (ht.symm.trans ht');obtain ⟨xs,m,_,_,hl,hxl,hel⟩:=DataW.trod_array hu hd;have h1:=hel j hj;rw [MD,List.getElem?_eq_getElem jh] at h1;obtain ⟨s,hs⟩:=MX Tryz.underlying48 h1;refine ⟨s, ?_⟩;rw [World.var?_cell hg hv j];have h2:((cs.toList.drop (j*1)).take 1)[0]? =some (.float .f64 s):=by rw [hs];rfl
 simpa [List.getElem?_take,List.getElem?_drop] using h2
def WM(W:World)(g j:Nat):ByteArray:=match W.cell? ⟨g,j,none⟩ with
 |some (.string s)=>s
 |_=>⟨#[]⟩
def ZH(W:World)(j:Nat):Nat:=match W.cell? ⟨4,j,none⟩ with
 |some (.float .f64 s)=>s
 |_=>0
theorem AF{W:World}{l:List (String×DataW Unit)}(h:laidMetH Tryz.prog l W)(hh:(l.all fun x=>x.2.handleName?.isNone)=true)(h0:("tailrace/tailracehand.assigns",Rows.laid_tailrace_tailracehand_assigns)∈l)(h1:("tailrace/tailracehand.compares",Rows.laid_tailrace_tailracehand_compares)∈l)(h2:("tailrace/tailracehand.signs",Rows.laid_tailrace_tailracehand_signs)∈l)(h3:("tailrace/tailracehand.regexes",Rows.laid_tailrace_tailracehand_regexes)∈l)(h4:("tailrace/tailracehand.numbers",Rows.laid_tailrace_tailracehand_numbers)∈l)(h5:("tailrace/tailracehand.texts",Rows.laid_tailrace_tailracehand_texts)∈l)(h6:("tailrace/tailracehand.scalars",Rows.laid_tailrace_tailracehand_scalars)∈l)(h7:("tailrace/tailracehand.specials",Rows.laid_tailrace_tailracehand_specials)∈l):(∀g j,g<8→j<Mu g→W.cell? ⟨g,j,none⟩=some (.string (WM W g j)))∧(∀j,j<8→W.cell? ⟨4,j,none⟩=some (.float .f64 (ZH W j))):=by
 rw [MakeChecks.laidMetH_plain _ _ _ hh] at h;obtain ⟨ps,h,-⟩:=h
 have ks:∀{g j:Nat},(∃s,W.cell? ⟨g,j,none⟩=some (.string s))→W.cell? ⟨g,j,none⟩=some (.string (WM W g j)):=fun {g j} ⟨s,hs⟩=>by
  unfold WM;rw [hs]
 refine ⟨fun g j hg hj=> ?_,fun j hj=> ?_⟩
 ·match g,hg with
  |0,_=>exact ks (Lt h h0 (show Tryz.prog.globalNamed "tailrace/tailracehand.assigns" =some 0 by kernel_rfl) (show (Tryz.prog.globals[0]?).map (·.type)=some 120 by kernel_rfl) Tryz.underlying120 (n:=7) hj)
  |1,_=>exact ks (Lt h h1 (show Tryz.prog.globalNamed "tailrace/tailracehand.compares" =some 1 by kernel_rfl) (show (Tryz.prog.globals[1]?).map (·.type)=some 123 by kernel_rfl) Tryz.underlying123 (n:=6) hj)
  |2,_=>exact ks (Lt h h2 (show Tryz.prog.globalNamed "tailrace/tailracehand.signs" =some 2 by kernel_rfl) (show (Tryz.prog.globals[2]?).map (·.type)=some 123 by kernel_rfl) Tryz.underlying123 (n:=6) hj)
  |3,_=>exact ks (Lt h h3 (show Tryz.prog.globalNamed "tailrace/tailracehand.regexes" =some 3 by kernel_rfl) (show (Tryz.prog.globals[3]?).map (·.type)=some 125 by kernel_rfl) Tryz.underlying125 (n:=8) hj)
  |4,_=>exact absurd hj (by simp [Mu])
  |5,_=>exact ks (Lt h h5 (show Tryz.prog.globalNamed "tailrace/tailracehand.texts" =some 5 by kernel_rfl) (show (Tryz.prog.globals[5]?).map (·.type)=some 128 by kernel_rfl) Tryz.underlying128 (n:=9) hj)
  |6,_=>exact ks (Lt h h6 (show Tryz.prog.globalNamed "tailrace/tailracehand.scalars" =some 6 by kernel_rfl) (show (Tryz.prog.globals[6]?).map (·.type)=some 152 by kernel_rfl) Tryz.underlying152 (n:=4) hj)
  |7,_=>exact ks (Lt h h7 (show Tryz.prog.globalNamed "tailrace/tailracehand.specials" =some 7 by kernel_rfl) (show (Tryz.prog.globals[7]?).map (·.type)=some 153 by kernel_rfl) Tryz.underlying153 (n:=11) hj)
 obtain ⟨s,hs⟩:=SF h h4 (show Tryz.prog.globalNamed "tailrace/tailracehand.numbers" =some 4 by kernel_rfl) (show (Tryz.prog.globals[4]?).map (·.type)=some 127 by kernel_rfl) Tryz.underlying127 hj;unfold ZH;rw [hs]
theorem UL{H:Type}{enc:TypeId×Value→H}{W:World}{v:Value}{d:DataW H}{ps:List MemPlace}(hok:∃a len cap,v= .slice a len cap)(h:DataW.Trod enc Tryz.prog W 0 (fun _=>true) true 38 v d ps):∃a n cap,v= .slice a n cap∧n≤9223372036854775807∧∀j,j<n→∃g o z,a=some ⟨g,o,none⟩∧g<W.heap.size∧W.cell? ⟨g,o+j,none⟩=some (.int .i64 z)∧-9223372036854775808≤z∧z≤9223372036854775807:=by
 obtain ⟨a0,len,cap,rfl⟩:=hok;obtain ⟨fuel,hf⟩:=h
 rcases open_ints Tryz.underlying38 Tryz.underlying3 XT hf with ⟨hcs,_⟩|⟨a,len',cap',zs,hcs,_,hl,hm,hz,_,hcell,hwz⟩
 ·simp [Value.cells] at hcs;obtain ⟨rfl,rfl,rfl⟩:=hcs;exact ⟨none,0,0,rfl,by omega,fun j hj=>by omega⟩
 simp [Value.cells] at hcs;obtain ⟨rfl,rfl,rfl⟩:=hcs;simp only [if_true] at hz;refine ⟨some a,len,cap,rfl,by simp only [maxLen] at hm;omega,fun j hj=> ?_⟩;have h1:=hcell j jh;obtain ⟨g,o,s⟩:=a
 have hs:s=none:=by
  have h00:=hcell 0 jh
  simpa [Addr.add] using World.cell?_spot h00
 subst hs;have hadd:(⟨g,o,none⟩:Addr).add j=⟨g,o+j,none⟩:=by unfold Addr.add;split<;>simp_all
 rw [hadd] at h1;have hw:=hwz (zs.getD j 0) (by rw [List.getD_eq_getElem?_getD,List.getElem?_eq_getElem jh];exact List.getElem_mem _);have hb: -9223372036854775808≤zs.getD j 0∧zs.getD j 0≤9223372036854775807:=by simpa [Lit.wf,IntKind.min,IntKind.max,IntKind.signed,IntKind.bits] using hw
 exact ⟨g,o,_,rfl,World.block_lt_of_cell? W _ h1,h1,hb.1,hb.2⟩
end Go.Proofs.YtkfillfkbhbbjaaGreatDoor
namespace Go.Proofs.YtkfillfkbhbbjaaGreatDoor.namesMade
open Go.ChangeShapes Go.WideShapes Go.ChangeAt Go.RowKit Go.WideMaps Go.WideElems
theorem XB(os:Os)(started:os.Started)(H:Type)(enc:TypeId×Value→H):
  ReturnsInHanded {} Tryz.checked os 4 .any (fun w args=>(Rows.namesMadeSpec.pre enc Tryz.prog Tryz.f4 Rows.namesMadeRow.domain false w args∧laidMetH Tryz.prog Rows.namesMadeRow.laid w)∧sizedMet enc Tryz.prog Tryz.f4 (OpenSpec.ofChange Rows.namesMadeSpec) false w args)
   (Rows.namesMadeSpec.post enc Tryz.prog Tryz.f4 false true false false):=by
 refine returnsInHanded_of_change_and (C:=Tryz.checked) (X:=fun w _=>laidMetH Tryz.prog Rows.namesMadeRow.laid w) (fun _ _ _ hh h=>h.of_heap hh) own started qh Tryz.func4
  (ChangeSpec.witness_shaped (enc:=enc) (C:=Tryz.checked) (os:=os) (X:=fun w _=>laidMetH Tryz.prog Rows.namesMadeRow.laid w) false (World.laidAll Tryz.prog os Rows.namesMadeRow.laid) #[.slice none 0 0] 8 (World.laidAll_os _ _ _)
   (World.shaped_of_ZipB qh qh) qh qh qh
   (by rw [MakeChecks.laidMetH_plain _ _ _ qh];exact laidMet_laidAll _ qh qh)) ?_
 intro W base args ds gs before hval0 hW _ _ hL _;have hval:∀(j:Nat) t v,Tryz.f4.params[j]? =some t→args[j]? =some v→Value.okWide Tryz.prog W .any base t v:=hval0;have hW':=hW;obtain ⟨p,q,hA0,hV,rfl,hfz,hnd⟩:=hW;have hA:DataW.TrodAll enc Tryz.prog W 0 (fun _=>true) true Tryz.f4.params.toList args.toList ds p:=hA0;rw [Tryz.params4] at hA hval;obtain ⟨v0,d0,rfl,rfl,h0⟩:=trodAll_one hA;have hsl:=okWide_slice Tryz.underlying38 (hval 0 38 v0 rfl rfl);obtain ⟨rfl,rfl⟩:=trodVars_none hV;clear hA0 hval0;simp only [List.append_nil] at hW';have hg:Gl W:=GD hL qh jo jo;have hlt:∀x∈p,x.block<W.heap.size:=fun x hx=>by simpa using hW'.lt x hx
 obtain ⟨a,n,cap,rfl,hn,hi⟩:=UL hsl h0;obtain ⟨ht,hf⟩:=AF hL qh jo jo jo jo jo jo jo jo;have h14:14<W.heap.size:=hg.2.2;refine (PB hg ⟨by omega,ht,hf,hi,hn⟩).mono fun e W' ⟨he,hg⟩=> ?_
 subst he;have hb:Below W.heap.size W W':=⟨hg.os,hg.tape,hg.output,hg.size,fun k hk=>hg.block k hk qg⟩
 exact ⟨_,rfl,_,_,_,[],_,[],hW',trodAll_cons_mk (shut_bool Tryz.underlying4 _) trodAll_mk0,
  trodAll_mk1 (Below.trod UJ qh (of_decide_eq_true qh) h0 hb hlt),rfl,hb.frame _,fun h=>by cases h⟩
theorem ZS:Rows.namesMadeRow.holds Tryz.pinned (OpenSpec.ofChange Rows.namesMadeSpec):=
 OpenClaim.holds_of_wide 4 Tryz.f4 rfl rfl rfl rfl rfl rfl rfl ⟨rfl,rfl,rfl,rfl,rfl⟩ rfl rfl rfl rfl rfl VY Tryz.func4 XR Aay wrap
  (fun os started H enc _=>XB os started H enc)
theorem WW:Rows.NamesMadeCardSaid:=
 Claim7.holds_tied_plain_at .later [] [.data,.data,.widerDeep,.widerDeep,.data,.data,.data,.data,.data,.sentinel,.sentinel,.data,.data,.data,.data,.data,.data,.data,.data,.pinned,.pinned] true (true, "76f2ab19b4180583457a9d817ab189cc4fe2888250af29d1bb426f5bd31fa24b") true ZS (fun _ h=>by cases h) qh (fun _ h=>by cases h) namesMade_row_tie rfl ⟨rfl,rfl⟩ qh rfl
  (fun f fn hf hfn=>by
   obtain rfl:f=4:=Option.some.inj (VY.symm.trans hf)|>.symm;obtain rfl:fn=Tryz.f4:=(Option.some.inj (Tryz.func4.symm.trans hfn)).symm
   exact ⟨by kernel_rfl,fun j t ht=>by
    rw [Tryz.params4] at ht;have hm:t∈ [38]:=by simpa using Array.mem_of_getElem? ht
    have hall:([38].all fun u=> !Tryz.prog.wantsStandIn u)=true:=by kernel_rfl
    exact (show Tryz.prog.wantsStandIn t=false by simpa using List.all_eq_true.1 hall t hm)⟩)
  qh
#print axioms WW
end Go.Proofs.YtkfillfkbhbbjaaGreatDoor.namesMade
