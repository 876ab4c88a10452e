/- DWv, DWw, KinL, ShS, ShN, SortL, InfoL, DWx, DWy, DWq. -/
import Derived.Test.YtkfillfkbhbbjaaGreatDoorRegS
import Derived.Test.YtkfillfkbhbbjaaGreatDoorDWk
import Derived.Test.YtkfillfkbhbbjaaGreatDoorKit
import Derived.Shelf.Sort.Plain
import Derived.Test.YtkfillfkbhbbjaaGreatDoorPLb
import Derived.Test.YtkfillfkbhbbjaaGreatDoorNamC
set_option maxRecDepth 100000
set_option maxHeartbeats 4000000
set_option linter.unusedSimpArgs false
set_option linter.unusedVariables false
namespace Go.Proofs.YtkfillfkbhbbjaaGreatDoor
open Go.RowKit
def stC(x:ByteArray):List Value:= [.string x]
theorem My{w w':World}{b:Nat}{v:Value}{n:Nat}{xs:List Value}(h:w.ownsRow b 9 1 v n xs)(hk:∀(g:Nat) c,w.heap[g]? =some (.cells c 9 (0,0))→w'.heap[g]? =some (.cells c 9 (0,0))):w'.ownsRow b 9 1 v n xs:=by
 obtain ⟨h1,h2|⟨g,cap,cur,h2,h3,h4,h5⟩⟩:=h
 ·exact ⟨h1,.inl h2⟩
 exact ⟨h1,.inr ⟨g,cap,cur,h2,h3,hk _ _ h4,h5⟩⟩
theorem Vx{w:World}{b:Nat}{v:Value}{n:Nat}{xs:List Value}(h:w.ownsRow b 9 1 v n xs):∀x∈v.ownBlock.toList,b≤x:=by
 obtain ⟨-,⟨rfl,-⟩|⟨g,cap,cur,rfl,h3,-⟩⟩:=h
 ·simp [Value.ownBlock]
 simp [Value.ownBlock];exact h3
theorem XL:∃i,Tryz.prog.info? 9=some i∧i.zero=some (.string ⟨#[]⟩)∧i.size=1∧i.bytes=16:=by
 exact zje
theorem Fj{ops:Array Oper}{o:Oper}{a:Act}{w:World}{K:Act→World→Prop}{Q:Exit→Act→World→Prop}{E:Prop}(hgd:o.guard=none)(s x:Operand)(ho:o.op= .call {callee:= .builtin .append,args:= #[s,x],argTypes:= #[22,22]}){b:Nat}{v:Value}{n:Nat}{xs:List Value}(hs:a.eval s=v)(hown:w.ownsRow b 9 1 v n xs)(ad:Addr)(m c:Nat){l:List ByteArray}(hx:a.eval x= .slice (some ad) m c)(hl:l.length=m)(hnews:∀j u,(l.map Value.string)[j]? =some u→w.cell? (ad.add j)=some u)(hn:n+m≤2000000)(hb:b≤w.heap.size)(h:∀v' w',w'.ownsRow b 9 1 v' (n+m) (xs++l.map Value.string)→Ac v.ownBlock.toList w w'→(v'.ownBlock=v.ownBlock∨v'.ownBlock=some w.heap.size)→K (a.put o.dst v') w'):if Region.wanted o (yielded ops a.tmps)=true then Oper.wp Tryz.prog o a w K Q else E:=by
 have hw:Region.wanted o (yielded ops a.tmps)=true:=by simp [Region.wanted,hgd]
 rw [if_pos hw];obtain ⟨i,hi,hz,hsz,hby⟩:=XL;obtain ⟨v',w',hr,h2,h3,-,h5⟩:=run_append_own_at (P:=Tryz.prog) w b 22 o.type 9 i (.string ⟨#[]⟩) 1 16 Tryz.underlying22 hi hz hsz hby rfl zi v n xs hown ad m c (l.map Value.string) (by simp [hl]) hnews (by intro u hu;simp at hu;obtain ⟨q,-,rfl⟩:=hu;rfl) zw jh hb;unfold Oper.wp execOp;simp only [ho,resolve,invoke,builtin,Sem.run_bind,Sem.run_pure,Result.andThen_ok,List.map_toArray,List.map_cons,List.map_nil,hs,hx,hr];exact h v' w' h2 (Ac.grown h3 fun k hk=> .inl (by simp [hk])) h5
theorem AX(s:ByteArray):∀(l:List ByteArray) (k:Nat),k≤l.length→(∀x∈l.take k,Pp x.data.toList s.data.toList=true)→(∀h:k<l.length,Pp l[k].data.toList s.data.toList=false)→Ep s l=l.take k++s::l.drop k
 | [],k,hk,_,_=>by
   have:k=0:=by simpa using hk
   subst this;rfl
 | x::l,0,_,_,h2=>by
   have h2:Pp x.data.toList s.data.toList=false:=h2 qg;rw [Ep,if_neg (by rw [h2];simp)];rfl
 | x::l,k+1,hk,h1,h2=>by
   have h3:Pp x.data.toList s.data.toList=true:=h1 x qg;rw [Ep,if_pos h3,AX s l k (by simpa using hk) (fun y hy=>h1 y (by simp [hy])) (fun h=>h2 qi)];rfl
theorem DB:∀(x y:List UInt8),Op.bytesLess x y=Pp x y
 | [],[]=>by simp [Op.bytesLess,Pp]
 |_::_,[]=>by simp [Op.bytesLess,Pp]
 | [],_::_=>by simp [Op.bytesLess,Pp]
 | a::x,b::y=>by
   simp [Op.bytesLess,Pp,DB x y]
   by_cases h:a<b
   ·simp [h]
   have h1:¬a.toNat<b.toNat:=fun q=>h (UInt8.lt_iff_toNat_lt.2 q)
   have h2:(a==b)= !decide (b<a):=by
    rw [Bool.eq_iff_iff];simp only [beq_iff_eq,Bool.not_eq_true',decide_eq_false_iff_not,UInt8.lt_iff_toNat_lt,←UInt8.toNat_inj]
    omega
   rw [h2]
theorem IX{x s:ByteArray}{b:Bool}(h:Pp x.data.toList s.data.toList=b):Op.bytesLess x.toList s.toList=b:=by rw [DB,ByteArray.toList_eq,ByteArray.toList_eq,h]
def PuI(s:ByteArray)(l:List ByteArray)(w:World)(g:Nat)(j:Value)(W:World):Prop:=∃k:Nat,j= .int .i64 k∧k≤l.length∧g=l.length+1 -k∧(∀x∈l.take k,Pp x.data.toList s.data.toList=true)∧Ac [] w W
theorem Lb{W:World}{g:Nat}{cur:Array Value}(hg:W.heap[g]? =some (.cells cur 9 (0,0))){l:List ByteArray}(hcur:∀i (h:i<l.length),cur[i]? =some (.string l[i]))(o:Nat)(l2:List ByteArray)(h2:∀j (h:j<l2.length),∃h':o+j<l.length,l2[j]=l[o+j]):
  ∀j u,(l2.map Value.string)[j]? =some u→W.cell? ((⟨g,o,none⟩:Addr).add j)=some u:=fun j u hj=>by
 have e1:(⟨g,o,none⟩:Addr).add j=⟨g,o+j,none⟩:=by simp [Addr.add]
 obtain ⟨hlt,rfl⟩:=List.getElem?_eq_some_iff.1 hj;obtain ⟨h',e⟩:=h2 j (by simpa using hlt);rw [e1,Aa hg (o+j),List.getElem_map,e,←hcur _ h']
theorem pu6{p:Prop}(h:p:=by
 go_wp2_with fail
 refine Ap (v:=v3) (fun W=>Ac [] w3 W) Av (fun w1 hW=>by simp [results,Jo,go_sem]) rfl (fun w1 hW=>⟨v3,rfl, ?_,HK3.1.trans hW qg⟩);have hx:=My hr3 (fun g c h=>hW.at h qg);rw [show 0+k+1+(l.length -k)=l.length+1 by omega] at hx;rw [HIB.1]
 simpa using hx):p:=h
theorem pu5{p:Prop}(h:p:=by
 go_upto_region 5 with fail
 have hlb:(k:Int)≤(l.length:Int):=by omega
 have hkcp:(k:Int)≤(cp:Int):=by omega
 have hlcp:(l.length:Int)≤(cp:Int):=by omega
 refine wp_region_held_drew (S:=fun _=>True) qh trivial ?_;intro _;have HKd:=zh (HK.1.trans (Ac.drew [] wr) qg);generalize wr.drew=wd at*
 refine Mo (i:=0) (fun _ _ _ h=>h) trivial ?_;refine AU ?_;refine Mo (i:=1) (fun _ _ _ h=>h) trivial ?_;refine AU ?_;refine Mo (i:=2) (fun _ _ _ h=>h) trivial ?_;refine AU ?_;refine Mo (i:=3) (fun _ _ _ h=>h) trivial ?_;refine AU ?_;refine Mo (i:=5) (fun _ _ _ h=>h) trivial ?_;refine AU ?_;refine Mo (i:=8) (fun _ _ _ h=>h) trivial ?_;refine AU ?_;refine Mo (i:=9) (fun _ _ _ h=>h) trivial ?_;refine AU ?_;refine Mo (i:=10) (fun _ _ _ h=>h) trivial ?_;refine AU ?_;obtain ⟨oo,heo,hoo⟩:∃o,(if cp=k then some ⟨g,0,none⟩ else some (⟨g,k,none⟩:Addr))=some ⟨g,o,none⟩∧(k<l.length→o=k):=if q:cp=k then ⟨0,by rw [if_pos q],fun h=>by omega⟩ else ⟨k,by rw [if_neg q],fun _=>rfl⟩
 (try rw [heo]);clear heo;refine wpAnyH_ready (rs:= [4,6]) qh qg ?_;refine AllReadyH.cons rfl (fun KQ hK=> ?_) (AllReadyH.cons rfl (fun KQ hK=> ?_) AllReadyH.nil)
 ·refine Fj rfl (.tmp 21) (.tmp 24) rfl (b:=w.heap.size) (v:= .slice none 0 0) (n:=0) (xs:= []) rfl (World.ownsRow_nil _ _ _ _) ⟨g,0,none⟩ k cp (l:=l.take k) rfl qi (Lb (HKd.1.at HG.1 qg) HC.1 0 _ (fun j hj=>by simp at hj;exact ⟨by omega,by simp⟩)) jh HKd.1.size ?_;rintro v1 w1 hr1 hk1' hv1;replace hk1':Ac [] wd w1:=hk1';refine hK.out _ _ trivial (fun _=> ?_);clear hK;refine IK ?_;have HK1:=zh (HKd.1.trans hk1' qg);clear hk1' hv1;refine WL ?_;refine AllReadyH.cons rfl (fun KQ hK=> ?_) AllReadyH.nil
  go_simp
  refine hK.out _ _ trivial (fun _=> ?_);clear hK;refine IK ?_;refine Bw (fun W=>Ac [] w1 W∧W.heap[w1.heap.size]? =some (.cells #[.string s] 9 (0,0))) ⟨Av,Nv⟩ ?_;rintro wb ⟨hka,cG⟩;replace HK1:=zh (HK1.1.trans hka qg);replace hr1:=My hr1 (fun g c h=>hka.at h qg);clear hka;refine XI ?_;refine AllReadyH.cons rfl (fun KQ hK=> ?_) AllReadyH.nil;refine Fj rfl (.tmp 25) (.tmp 27) rfl (b:=w.heap.size) (v:=v1) rfl hr1 ⟨w1.heap.size,0,none⟩ 1 1 (l:= [s]) rfl rfl (Jj (enc:=stC) rfl ⟨_,cG⟩) jh HK1.1.size ?_;rintro v2 w2 hr2 hk2' hv2;have HK2:=zh (HK1.1.trans hk2' (fun x hx=> .inr (Vx hr1 x hx)));refine hK.out _ _ trivial (fun _=> ?_);clear hK hk2' hv2;refine IK ?_;refine YU ?_;refine AllReadyH.cons rfl (fun KQ hK=> ?_) AllReadyH.nil
  first
  |refine Fj rfl (.tmp 28) (.tmp 31) rfl (b:=w.heap.size) (v:=v2) rfl hr2 ⟨g,oo,none⟩ (l.length -k) (cp -k) (l:=l.drop k) rfl qg (Lb (HK2.1.at HG.1 qg) HC.1 oo _ (fun j hj=>by simp at hj;have:=hoo jh;subst this;exact ⟨by omega,by simp⟩)) jh HK2.1.size ?_
  |refine Fj rfl (.tmp 28) (.tmp 31) rfl (b:=w.heap.size) (v:=v2) rfl hr2 ⟨g,k,none⟩ (l.length -k) (cp -k) (l:=l.drop k) rfl qg (Lb (HK2.1.at HG.1 qg) HC.1 k _ (fun j hj=>by simp at hj;exact ⟨by omega,by simp⟩)) jh HK2.1.size ?_
  rintro v3 w3 hr3 hk3' hv3;have HK3:=zh (HK2.1.trans hk3' (fun x hx=> .inr (Vx hr2 x hx)));refine hK.out _ _ trivial (fun _=> ?_);clear hK hk3' hv3;refine IK ?_;refine zgc ?_;refine AU ?_;refine EY ?_;exact pu6
 go_simp
 refine hK.out _ _ trivial (fun _=> ?_);clear hK;refine IK ?_;refine qgc ?_;rintro wb ⟨hka,cG⟩;replace HKd:=zh (HKd.1.trans hka qg);clear hka;refine wpAnyH_ready (rs:= [4]) qh qg ?_;refine AllReadyH.cons rfl (fun KQ hK=> ?_) AllReadyH.nil;refine Fj rfl (.tmp 21) (.tmp 24) rfl (b:=w.heap.size) (v:= .slice none 0 0) (n:=0) (xs:= []) rfl (World.ownsRow_nil _ _ _ _) ⟨g,0,none⟩ k cp (l:=l.take k) rfl qi (Lb (HKd.1.at HG.1 qg) HC.1 0 _ (fun j hj=>by simp at hj;exact ⟨by omega,by simp⟩)) jh HKd.1.size ?_;rintro v1 w1 hr1 hk1' hv1;replace hk1':Ac [] wb w1:=hk1';refine hK.out _ _ trivial (fun _=> ?_);clear hK;refine IK ?_;have HK1:=zh (HKd.1.trans hk1' qg);replace cG:=hk1'.at cG qg;clear hk1' hv1;refine XI ?_;refine AllReadyH.cons rfl (fun KQ hK=> ?_) AllReadyH.nil;refine Fj rfl (.tmp 25) (.tmp 27) rfl (b:=w.heap.size) (v:=v1) rfl hr1 ⟨wd.heap.size,0,none⟩ 1 1 (l:= [s]) rfl rfl (Jj (enc:=stC) rfl ⟨_,cG⟩) jh HK1.1.size ?_;rintro v2 w2 hr2 hk2' hv2;have HK2:=zh (HK1.1.trans hk2' (fun x hx=> .inr (Vx hr1 x hx)));refine hK.out _ _ trivial (fun _=> ?_);clear hK hk2' hv2;refine IK ?_;refine YU ?_;refine AllReadyH.cons rfl (fun KQ hK=> ?_) AllReadyH.nil
 first
 |refine Fj rfl (.tmp 28) (.tmp 31) rfl (b:=w.heap.size) (v:=v2) rfl hr2 ⟨g,oo,none⟩ (l.length -k) (cp -k) (l:=l.drop k) rfl qg (Lb (HK2.1.at HG.1 qg) HC.1 oo _ (fun j hj=>by simp at hj;have:=hoo jh;subst this;exact ⟨by omega,by simp⟩)) jh HK2.1.size ?_
 |refine Fj rfl (.tmp 28) (.tmp 31) rfl (b:=w.heap.size) (v:=v2) rfl hr2 ⟨g,k,none⟩ (l.length -k) (cp -k) (l:=l.drop k) rfl qg (Lb (HK2.1.at HG.1 qg) HC.1 k _ (fun j hj=>by simp at hj;exact ⟨by omega,by simp⟩)) jh HK2.1.size ?_
 rintro v3 w3 hr3 hk3' hv3;have HK3:=zh (HK2.1.trans hk3' (fun x hx=> .inr (Vx hr2 x hx)));refine hK.out _ _ trivial (fun _=> ?_);clear hK hk3' hv3;refine IK ?_;refine zgc ?_;refine AU ?_;refine EY ?_;exact pu6):p:=h
theorem TF{w:World}{s:ByteArray}{l:List ByteArray}{g cp:Nat}{cur:Array Value}(hg:w.heap[g]? =some (.cells cur 9 (0,0)))(hcur:∀i (h:i<l.length),cur[i]? =some (.string l[i]))(h0:0<l.length)(hcp:l.length≤cp)(hc2:cp≤maxLen)(hl:l.length≤1000000):Calls Tryz.prog 51 #[.slice (some ⟨g,0,none⟩) l.length cp,.string s] w fun r w'=>∃v,r= .returned v∧w'.ownsRow w.heap.size 9 1 v (l.length+1) ((Ep s l).map Value.string)∧Ac [] w w':=by
 have HG:=zh hg;have HC:=zh hcur;clear hg hcur
 go_enter Tryz.func51,Tryz.ntmps51
 go_wp2_with fail
 go_loopg [5] (l.length+1) (fun g j wr=>PuI s l w g j wr)
 case atStart=>exact ⟨0,rfl,Nat.zero_le _,rfl,by simp,Av⟩
 obtain ⟨k,rfl,hk1,hk2,hlt,hk⟩:=hrel;have HK:=zh hk;have HL:=zh hlt;have l_g:=Ad (hk.at HG.1 qg);clear hk hlt
 by_cases hkl:k<l.length
 ·cases gk with
  |zero=>omega
  | succ f=>
   have ck:=Aa (HK.1.at HG.1 qg) k;rw [HC.1 k hkl] at ck;have hki:(k:Int)<(l.length:Int):=by omega
   cases hb:Pp l[k].data.toList s.data.toList with
   | true=>
    have hb2:=IX hb;have HB:=zh hb;clear hb
    go_wp2_with fail
    go_roundg f
    case measure=>omega
    case rel=>exact ⟨k+1,by simp,by omega,by omega,fun x hx=>by
     rw [List.take_succ_eq_append_getElem hkl] at hx
     rcases List.mem_append.1 hx with h|h
     ·exact HL.1 x h
     simp at h;rw [h];exact HB.1,HK.1.trans (fp':= []) Av qg⟩
   |false=>
    have hb2:=IX hb;have HIB:=zh (AX s l k hk1 HL.1 (fun _=>hb));clear hb;exact pu5
 skip
 have HIB:=zh (AX s l k hk1 HL.1 (fun h=>absurd h hkl));have hnk:¬((k:Int)<(l.length:Int)):=by omega
 go_upto_region 5 with fail
 exact pu5
theorem pn6{p:Prop}(h:p:=by
 go_wp2_with fail
 refine Ap (v:= .slice (some ⟨g2,0,none⟩) (0+1) cp2) (fun W=>Ac [] w2 W) Av (fun w1 hW=>by simp [results,Jo,go_sem]) rfl (fun w1 hW=>⟨_,rfl, ?_,HK2.1.trans hW qg⟩);exact My hr2 (fun g c h=>hW.at h qg)):p:=h
theorem TE{w:World}{s:ByteArray}:Calls Tryz.prog 51 #[.slice none 0 0,.string s] w fun r w'=>∃v,r= .returned v∧w'.ownsRow w.heap.size 9 1 v 1 [.string s]∧Ac [] w w':=by
 go_enter Tryz.func51,Tryz.ntmps51
 go_wp2_with fail
 go_loopg [5] 1 (fun g j wr=>g=1∧j= .int .i64 0∧Ac [] w wr)
 case atStart=>exact ⟨rfl,rfl,Av⟩
 obtain ⟨-,rfl,hk⟩:=hrel;have HK:=zh hk;clear hk
 go_upto_region 5 with fail
 refine wp_region_held_drew (S:=fun _=>True) qh trivial ?_;intro _;have HKd:=zh (HK.1.trans (Ac.drew [] wr) qg);generalize wr.drew=wd at*
 refine Mo (i:=0) (fun _ _ _ h=>h) trivial ?_;refine AU ?_;refine Mo (i:=1) (fun _ _ _ h=>h) trivial ?_;refine AU ?_;refine Mo (i:=2) (fun _ _ _ h=>h) trivial ?_;refine AU ?_;refine Mo (i:=3) (fun _ _ _ h=>h) trivial ?_;refine AU ?_;refine Mo (i:=5) (fun _ _ _ h=>h) trivial ?_;refine AU ?_;refine Mo (i:=8) (fun _ _ _ h=>h) trivial ?_;refine AU ?_;refine Mo (i:=9) (fun _ _ _ h=>h) trivial ?_;refine AU ?_;refine Mo (i:=10) (fun _ _ _ h=>h) trivial ?_;refine AU ?_;refine wpAnyH_ready (rs:= [4,6]) qh qg ?_;refine AllReadyH.cons rfl (fun KQ hK=> ?_) (AllReadyH.cons rfl (fun KQ hK=> ?_) AllReadyH.nil)
 ·go_simp
  refine hK.out _ _ trivial (fun _=> ?_);clear hK;refine IK ?_;refine WL ?_;refine AllReadyH.cons rfl (fun KQ hK=> ?_) AllReadyH.nil
  go_simp
  refine hK.out _ _ trivial (fun _=> ?_);clear hK;refine IK ?_;refine qgc ?_;rintro wb ⟨hka,cG⟩;replace HKd:=zh (HKd.1.trans hka qg);clear hka;exact qae
 go_simp
 refine hK.out _ _ trivial (fun _=> ?_);clear hK;refine IK ?_;refine qgc ?_;rintro wb ⟨hka,cG⟩;replace HKd:=zh (HKd.1.trans hka qg);clear hka;refine wpAnyH_ready (rs:= [4]) qh qg ?_;refine AllReadyH.cons rfl (fun KQ hK=> ?_) AllReadyH.nil
 go_simp
 refine hK.out _ _ trivial (fun _=> ?_);clear hK;refine IK ?_;exact qae
open Go.RowKit Go.ChangeMaps
def Pa(st:NS)(t:Ae):Ae:=(Dl st t).getD Gs
def RQ(t:Ae):Bool:=decide (t.1=0)&&Am t.2
def AI(st:NS)(x t:Ae):Bool:=RQ t&&Oq x (Pa st t)
theorem Sq{st:NS}:∀{l:List Ae} {k0 k:Cs},Nl st l k0=some k→(∀t∈l,RQ t=true→Dl st t=some (Pa st t))∧∀x,kof x k=if l.any (AI st x)=true then 1 else kof x k0
 | [],k0,k,h=>by
   simp only [Nl,Option.some.injEq] at h;subst h;exact ⟨by simp,by simp⟩
 | t ::l,k0,k,h=>by
   unfold Nl at h
   by_cases hs:t.1=0∧Am t.2=true
   ·rw [if_pos hs] at h;have hg:RQ t=true:=by simp [RQ,hs.1,hs.2]
    simp only [Option.bind_eq_bind,Option.bind_eq_some_iff] at h;obtain ⟨r,hr,h⟩:=h;have hD:Pa st t=r:=by unfold Pa;rw [hr];rfl
    obtain ⟨h1,h2⟩:=Sq h;refine ⟨fun u hu hg=> ?_,fun x=> ?_⟩
    ·rcases List.mem_cons.1 hu with rfl|hu
     ·rw [hr,hD]
     exact h1 u hu hg
    have e2:kof x ((r,1)::k0)=if Oq x r then 1 else kof x k0:=by rw [kof]
    rw [h2 x,List.any_cons,e2];have e:AI st x t=Oq x r:=by unfold AI;rw [hg,hD];rfl
    rw [e]
    by_cases h3:Oq x r=true
    ·simp [h3]
    simp only [Bool.not_eq_true] at h3;rw [h3,Bool.false_or]
    rfl
   rw [if_neg hs] at h
   have hg:RQ t=false:=by
    unfold RQ
    by_cases h0:t.1=0
    ·simp [h0];cases h4:Am t.2 with
     |false=>rfl
     |true=>exact absurd ⟨h0,h4⟩ hs
    simp [h0]
   obtain ⟨h1,h2⟩:=Sq h;refine ⟨fun u hu hgu=> ?_,fun x=> ?_⟩
   ·rcases List.mem_cons.1 hu with rfl|hu
    ·rw [hg] at hgu;cases hgu
    exact h1 u hu hgu
   rw [h2 x,List.any_cons];have e:AI st x t=false:=by unfold AI;rw [hg];rfl
   rw [e];rfl
theorem RE{α:Type}{f:α→Bool}{p l:List α}(h:p.Perm l):p.any f=l.any f:=by
 induction h with
 |nil=>rfl
 |cons x _ ih=>simp [ih]
 |swap x y l=>simp [Bool.or_left_comm]
 |trans _ _ h1 h2=>exact h1.trans h2
theorem Ex.start{w:World}{b:Nat}(h:w.heap[b]? =some (.map #[] 0)):Ex w b (fun _=>0):=⟨[],0,h,fun _=>rfl⟩
theorem Ex.of{w:World}{b:Nat}{f g:Ae→Nat}(h:Ex w b f)(e:∀x,f x=g x):Ex w b g:=by
 have:f=g:=funext e;rw [←this];exact h
theorem Ex.look{w:World}{b:Nat}{f:Ae→Nat}(h:Ex w b f)(t:Ae){n:Nat}(hn:n=f t):(Instr.lookup 103 (.map (some b)) (.agg #[.int .i64 t.1,.string t.2]) false).run Tryz.prog w= .ok (.int .i64 n) w:=by
 obtain ⟨es,k,h1,h2⟩:=h;have:=Yp (P:=Tryz.prog) PC Tryz.underlying103 (z:= .int .i64 0) (w:=w) (by simp [go_sem]) h1 t;rw [hn,←h2 t];exact this
theorem Vk{b:Nat}{es:List (Ls Ae)}{k:Nat}{W:World}(hb:W.heap[b]? =some (.map (Cm Cn es) k))(a:Ae)(n:Int):
  (Instr.mapUpdate 103 (.map (some b)) (.agg #[.int .i64 a.1,.string a.2]) (.int .i64 n)).run Tryz.prog W= .ok () (mset W b (.map (Cm Cn (Cw a (.int .i64 n) k es).1) (Cw a (.int .i64 n) k es).2)):=
 Qi (P:=Tryz.prog) PC Tryz.underlying103 hb a (.int .i64 n)
theorem Fr.entry{w:World}{r b n:Nat}{l p:List Ae}{t:Ae}(h:Fr w r b l (p++ [t]) n):(Instr.entry (.pointer (some ⟨r,0,none⟩))).run Tryz.prog w= .ok (.tuple #[.agg #[.int .i64 t.1,.string t.2],.agg #[]]) w:=by
 obtain ⟨es,ps,qs,k,h1,h2,h3,h4,h5,rfl⟩:=h;have hne:ps≠ []:=fun e=>by rw [e] at h5;simp at h5
 obtain ⟨qs',e,rfl⟩:∃a e,ps=a++ [e]:=⟨ps.dropLast,ps.getLast hne,(List.dropLast_concat_getLast hne).symm⟩
 have hk:e.key=t:=by
  simp only [List.map_append,List.map_cons,List.map_nil] at h5;exact (List.append_inj_right' h5 rfl|>fun h=>by simpa using h.symm)
 have hem:e∈es:=h4.subset qg
 have hv:e.val= .agg #[]:=by
  exact qme
 have hn:((Cm Cn es).toList.map (·.born)).Nodup:=by rw [Zm];exact h2.2.1
 have h3':w.heap[r]? =some (.mapIter (some b) k ((qs'.map (·.born)).toArray.push e.born) k):=by simpa using h3
 have:=run_entry_at (P:=Tryz.prog) w r b k _ _ k (⟨Cn e.key,e.val,e.born⟩:MapEntry) h3' h1 (by simp [Cm];exact ⟨e,hem,rfl,rfl,rfl⟩) hn;rw [hv,hk] at this;exact this
open Go.Shelf Go.Sort Go.RowKit
def UI:Go.Shelf.Ren:=⟨fun|192=>46|190=>79|125=>119|258=>118|128=>152|129=>153|302=>143|303=>144|304=>145|305=>146|306=>147|307=>148|308=>149|309=>150|310=>151|333=>178|329=>179|330=>180|334=>181|335=>182|336=>183|344=>210|n=>n,fun|31=>22|0=>0|9=>9|3=>3|46=>178|51=>203|53=>189|4=>4|183=>197|182=>196|131=>97|5=>5|218=>220|222=>59|228=>256|229=>174|n=>n,fun n=>n⟩
theorem PA:Lays.n192 Tryz.prog UI:={
 mixed:=by kernel_rfl
 f125:=Tryz.func119.trans (congrArg some (by kernel_rfl))
 f128:=Tryz.func152.trans (congrArg some (by kernel_rfl))
 f129:=Tryz.func153.trans (congrArg some (by kernel_rfl))
 f190:=Tryz.func79.trans (congrArg some (by kernel_rfl))
 f192:=Tryz.func46.trans (congrArg some (by kernel_rfl))
 f258:=Tryz.func118.trans (congrArg some (by kernel_rfl))
 f302:=Tryz.func143.trans (congrArg some (by kernel_rfl))
 f303:=Tryz.func144.trans (congrArg some (by kernel_rfl))
 f304:=Tryz.func145.trans (congrArg some (by kernel_rfl))
 f305:=Tryz.func146.trans (congrArg some (by kernel_rfl))
 f306:=Tryz.func147.trans (congrArg some (by kernel_rfl))
 f307:=Tryz.func148.trans (congrArg some (by kernel_rfl))
 f308:=Tryz.func149.trans (congrArg some (by kernel_rfl))
 f309:=Tryz.func150.trans (congrArg some (by kernel_rfl))
 f310:=Tryz.func151.trans (congrArg some (by kernel_rfl))
 f329:=Tryz.func179.trans (congrArg some (by kernel_rfl))
 f330:=Tryz.func180.trans (congrArg some (by kernel_rfl))
 f333:=Tryz.func178.trans (congrArg some (by kernel_rfl))
 f334:=Tryz.func181.trans (congrArg some (by kernel_rfl))
 f335:=Tryz.func182.trans (congrArg some (by kernel_rfl))
 f336:=Tryz.func183.trans (congrArg some (by kernel_rfl))
 f344:=Tryz.func210.trans (congrArg some (by kernel_rfl))
 t0:=Tryz.underlying0
 a0:=Tryz.isAgg0
 z0:=Tryz.sizeOf0
 v0:=Tryz.zeroValue0
 t3:=Tryz.underlying3
 a3:=Tryz.isAgg3
 z3:=Tryz.sizeOf3
 v3:=Tryz.zeroValue3
 t4:=Tryz.underlying4
 a4:=Tryz.isAgg4
 z4:=Tryz.sizeOf4
 v4:=Tryz.zeroValue4
 t5:=Tryz.underlying5
 a5:=Tryz.isAgg5
 z5:=Tryz.sizeOf5
 v5:=Tryz.zeroValue5
 t9:=Tryz.underlying9
 a9:=Tryz.isAgg9
 z9:=Tryz.sizeOf9
 v9:=Tryz.zeroValue9
 t31:=Tryz.underlying22
 a31:=Tryz.isAgg22
 z31:=Tryz.sizeOf22
 v31:=Tryz.zeroValue22
 t46:=Tryz.underlying178
 a46:=Tryz.isAgg178
 z46:=Tryz.sizeOf178
 v46:=Tryz.zeroValue178
 t51:=Tryz.underlying203
 a51:=Tryz.isAgg203
 z51:=Tryz.sizeOf203
 v51:=Tryz.zeroValue203
 t53:=Tryz.underlying189
 a53:=Tryz.isAgg189
 z53:=Tryz.sizeOf189
 v53:=Tryz.zeroValue189
 t131:=Tryz.underlying97
 a131:=Tryz.isAgg97
 z131:=Tryz.sizeOf97
 v131:=Tryz.zeroValue97
 t182:=Tryz.underlying196
 a182:=Tryz.isAgg196
 z182:=Tryz.sizeOf196
 v182:=Tryz.zeroValue196
 t183:=Tryz.underlying197
 a183:=Tryz.isAgg197
 z183:=Tryz.sizeOf197
 v183:=Tryz.zeroValue197
 t218:=Tryz.underlying220
 a218:=Tryz.isAgg220
 z218:=Tryz.sizeOf220
 v218:=Tryz.zeroValue220
 t222:=Tryz.underlying59
 a222:=Tryz.isAgg59
 z222:=Tryz.sizeOf59
 v222:=Tryz.zeroValue59
 t228:=Tryz.underlying256
 a228:=Tryz.isAgg256
 z228:=Tryz.sizeOf256
 v228:=Tryz.zeroValue256
 t229:=Tryz.underlying174
 a229:=Tryz.isAgg174
 z229:=Tryz.sizeOf174
 v229:=Tryz.zeroValue174}
theorem CB(blk off cap:Nat)(ss:List (List UInt8))(w:World)(hH:Holds encStr w blk off ss.toArray)(hblk:blk<w.heap.size)(hsz:ss.length<4611686018427387904):
  Calls Tryz.prog 46 #[.slice (some ⟨blk,off,none⟩) ss.length cap] w fun e w'=>
   e= .returned (.tuple #[])∧∃n os,w'=grow (putRow encStr (Sort.ahead w n) blk off (ss.mergeSort fun x y=>decide (x≤y)).toArray) os:=
 Any.sort_Strings PA blk off cap ss w hH hblk hsz
theorem Yb(w:World):Calls Tryz.prog 143 #[.slice none 0 0,.int .i64 0,.int .i64 0] w fun e w'=>e= .returned (.tuple #[])∧Ac [] w w':=by
 go_enter Tryz.func143,Tryz.ntmps143
 go_wp2_with fail
 go_loopg [6] 1 (fun g j wr=>wr=w∧j= .int .i64 1)
 case atStart=>exact Qd
 obtain ⟨rfl,rfl⟩:=hrel
 go_wp2_with fail
 go_end0
 exact ⟨rfl,Ac.refl [] _⟩
theorem TI(w:World)(l:Int):Calls Tryz.prog 118 #[.slice none 0 0,.int .i64 0,.int .i64 0,.int .i64 l] w fun e w'=>e= .returned (.tuple #[])∧Ac [] w w':=by
 go_enter Tryz.func118,Tryz.ntmps118
 go_wp2_with fail
 go_loopg [1,2] 1 (fun g j k wr=>wr=w∧j= .int .i64 0∧k= .int .i64 0)
 case atStart=>exact ⟨rfl,rfl,rfl⟩
 obtain ⟨rfl,rfl,rfl⟩:=hrel
 go_wp2_with fail
 refine (Yb _).mono ?_;rintro r w' ⟨rfl,hk⟩
 go_wp2_with fail
 exact bodyPost_ret (v:= .tuple #[]) jcb rfl ⟨rfl,hk⟩
theorem ZW(w:World):Calls Tryz.prog 119 #[.int .u64 0] w fun e w'=>∃l,e= .returned (.int .i64 l)∧w'=w:=by
 go_enter Tryz.func119,Tryz.ntmps119
 go_wp2
 exact bodyPost_ret (by simp [results,Jo]<;>rfl) rfl ⟨_,rfl,rfl⟩
theorem NK(w:World):Calls Tryz.prog 79 #[.slice none 0 0] w fun e w'=>e= .returned (.tuple #[])∧Ac [] w w':=by
 go_enter Tryz.func79,Tryz.ntmps79
 go_wp2_with fail
 refine (ZW _).mono ?_;rintro r w' ⟨l,rfl,rfl⟩
 go_wp2_with fail
 refine (TI _ l).mono ?_;rintro r w2 ⟨rfl,hk⟩
 go_wp2_with fail
 go_end0
 exact ⟨rfl,hk⟩
theorem CA(w:World):Calls Tryz.prog 46 #[.slice none 0 0] w fun e w'=>e= .returned (.tuple #[])∧Ac [] w w':=by
 go_enter Tryz.func46,Tryz.ntmps46
 go_wp2_with fail
 refine (NK _).mono ?_;rintro r w2 ⟨rfl,hk⟩
 go_wp2_with fail
 go_end0
 exact ⟨rfl,hk⟩
open Go.RowKit Go.Sort
theorem AR:∀{x y:List UInt8},Pp x y=true↔x<y
 | [],[]=>by simp [Pp]
 |_::_,[]=>by simp [Pp]
 | [],_::_=>by simp [Pp]
 | a::x,b::y=>by
   rw [List.cons_lt_cons_iff,Pp]
   by_cases h:a<b
   ·simp [h]
   rw [if_neg h]
   by_cases h2:b<a
   ·rw [if_pos h2];have:a≠b:=fun e=>by subst e;exact h h2
    simp [h,this]
   rw [if_neg h2,AR];have:a=b:=UInt8.le_antisymm (UInt8.not_lt.1 h2) (UInt8.not_lt.1 h);simp [this]
theorem Ht(s:ByteArray):∀l,List.Perm (Ep s l) (s::l)
 | []=>List.Perm.refl _
 | x::l=>by
   rw [Ep]
   split
   ·exact ((Ht s l).cons x).trans (List.Perm.swap s x l)
   exact List.Perm.refl _
theorem Gw:∀l,List.Perm (Cr l) l
 | []=>List.Perm.refl _
 |x::l=>(Ht x (Cr l)).trans ((Gw l).cons x)
def XC(x y:ByteArray):Prop:=x.data.toList≤y.data.toList
theorem Tt(s:ByteArray):∀l,l.Pairwise XC→(Ep s l).Pairwise XC
 | [],_=>by simp [Ep]
 | x::l,h=>by
   rw [List.pairwise_cons] at h;rw [Ep]
   split
   ·rename_i hlt;rw [List.pairwise_cons];refine ⟨fun y hy=> ?_,Tt s l h.2⟩
    rcases List.mem_cons.1 ((Ht s l).mem_iff.1 hy) with rfl|hy
    ·exact List.le_of_lt (AR.1 hlt)
    exact h.1 y hy
   rename_i hlt;have hsx:XC s x:=List.not_lt.1 fun h2=>hlt (AR.2 h2)
   rw [List.pairwise_cons,List.pairwise_cons];refine ⟨fun y hy=> ?_,h.1,h.2⟩
   rcases List.mem_cons.1 hy with rfl|hy
   ·exact hsx
   exact List.le_trans hsx (h.1 y hy)
theorem Jd:∀l,(Cr l).Pairwise XC
 | []=>List.Pairwise.nil
 |x::l=>Tt x _ (Jd l)
theorem AS{x y:ByteArray}(h1:XC x y)(h2:XC y x):x=y:=by
 have h:x.data.toList=y.data.toList:=List.le_antisymm h1 h2;have h3:x.data=y.data:=by rw [←Array.toList_inj];exact h
 cases x;cases y;simp_all
theorem Oz{l l':List ByteArray}(h:List.Perm l l'):Cr l=Cr l':=
 ((Gw l).trans (h.trans (Gw l').symm)).eq_of_pairwise (le:=XC) (fun _ _ _ _ h1 h2=>AS h1 h2) (Jd l) (Jd l')
theorem Uk(l:List ByteArray):(l.map (·.data.toList)).mergeSort (fun x y=>decide (x≤y))=(Cr l).map (·.data.toList):=by
 have hp:=List.mergeSort_perm (l.map (·.data.toList)) (fun x y=>decide (x≤y));have hs:=List.pairwise_mergeSort (le:=fun (x y:List UInt8)=>decide (x≤y)) (fun a b c h1 h2=>by simp only [decide_eq_true_eq] at*;exact List.le_trans h1 h2) (fun a b=>by simp only [Bool.or_eq_true,decide_eq_true_eq];exact List.le_total a b) (l.map (·.data.toList));refine (hp.trans ((Gw l).map _).symm).eq_of_pairwise (le:=fun x y=>x≤y) (fun _ _ _ _ h1 h2=>List.le_antisymm h1 h2) (hs.imp fun h=>by simpa using h) ?_;rw [List.pairwise_map];exact (Jd l).imp fun h=>h
theorem ZG(s:ByteArray):(⟨s.data.toList.toArray⟩:ByteArray)=s:=by cases s;simp
set_option maxHeartbeats 1000000 in
theorem CC{w:World}{b:Nat}{T:Nat→Prop}{l:List ByteArray}{v:Value}(hO:Ax Ef 9 1 w b T l v)(hl:l.length≤1000000):Calls Tryz.prog 46 #[v] w fun r w'=>r= .returned (.tuple #[])∧Ax Ef 9 1 w' b T (Cr l) v∧∃fl:List Nat,(∀x∈fl,T x)∧Ac fl w w':=by
 obtain ⟨xs,ho,ht,hx⟩:=hO
 have hxs0:∀{l:List ByteArray} {xs:List Value},De (Ef w (fun g=>T g∧v.ownBlock≠some g)) l xs→xs=l.map Value.string:=by
  intro l xs h
  induction h with
  |nil=>rfl
  |cons h1 _ ih=>rw [h1,ih];rfl
 have hxs:xs=l.map Value.string:=hxs0 hx;clear hxs0
 have hE:∀(w':World) (S:Nat→Prop) (l:List ByteArray),De (Ef w' S) l (l.map Value.string):=by
  intro w' S l
  induction l with
  |nil=>exact .nil
  |cons a l ih=>exact .cons (c:= [.string a]) rfl ih
 rcases ho.2 with ⟨rfl,hn⟩|⟨g,cap,cur,rfl,hb,hg,h1,h2,h3,h4⟩
 ·have:l= []:=List.length_eq_zero_iff.1 hn;subst this;refine (CA w).mono fun r w' ⟨h5,h6⟩=>⟨h5, ?_,[],by simp,h6⟩
  exact Ax.nil
 have hcell:∀j (hj:j<l.length),cur[j]? =some (.string l[j]):=fun j hj=>by
  have:(cur.toList.take (l.length*1))[j]? =some (.string l[j]):=by rw [h4,hxs];simp [hj]
  rw [List.getElem?_take] at this
  split at this
  ·simpa using this
  cases this
 have hH:Holds encStr w g 0 (l.map (·.data.toList)).toArray:=fun j hj=>by
  have hj:j<l.length:=by simpa using hj
  refine ⟨?_,by rw [Nat.zero_add];exact Ab hg j⟩;rw [Nat.zero_add,Aa hg,hcell j hj];simp [encStr,hj,ZG]
 have hc:=CB g 0 cap (l.map (·.data.toList)) w hH (Ad hg) qi;rw [List.length_map] at hc;refine hc.mono fun r w' ⟨h5,n,os,h6⟩=>⟨h5, ?_⟩
 rw [Uk] at h6;have hlen:(Cr l).length=l.length:=(Gw l).length_eq;subst h6
 have hk:Ac [g] w (grow (putRow encStr (Sort.ahead w n) g 0 ((Cr l).map (·.data.toList)).toArray) os):=by
  refine ⟨rfl,rfl,rfl,by simp,fun k hk hn=> ?_⟩;rw [heap_grow_old _ _ (by simpa using hk)];simp only [putRow,mapBlock,heap_ahead,Array.getElem?_modify];rw [if_neg (by simp at hn;exact fun e=>hn e.symm)]
 have hg2:(grow (putRow encStr (Sort.ahead w n) g 0 ((Cr l).map (·.data.toList)).toArray) os).heap[g]? =some (.cells (putCells encStr 0 ((Cr l).map (·.data.toList)).toArray cur) 9 (0,0)):=by
  rw [heap_grow_old _ _ (by simpa using Ad hg)];simp only [putRow,mapBlock,heap_ahead,Array.getElem?_modify,hg];simp [onCells]
 refine ⟨⟨(Cr l).map Value.string,⟨by simp,.inr ⟨g,cap,_,by rw [hlen],hb,hg2,by omega,h2,by simp [putCells];omega, ?_⟩⟩,ht,hE _ _ _⟩,[g],by simp;exact ht g rfl,hk⟩;apply List.ext_getElem?;intro j;rw [List.getElem?_take]
 by_cases hj:j<l.length
 ·rw [if_pos jh];have hjs:j<(Cr l).length:=by omega
  have hj2:j<cur.size:=by omega
  simp [putCells,hj2,hjs,encStr,ZG]
 rw [if_neg jh,List.getElem?_eq_none qi]
def Kq(t:Ae):Bool:= !(decide (t.1>0)||Am t.2)
def BL(st:NS)(kf:Cs)(t:Ae):Bool:=kof (Pa st t) kf==2
def Bm(st:NS)(kf:Cs)(arr:Bool)(l:List Ae):List ByteArray:=(l.filter fun t=>Kq t&&(BL st kf t==arr)).map (·.2)
theorem Oc{st:NS}{kf:Cs}{arr:Bool}:∀{l:List Ae} {r:List ByteArray},Lx st kf arr l=some r→(∀t∈l,Kq t=true→Dl st t=some (Pa st t))∧r=Bm st kf arr l
 | [],r,h=>by
   simp only [Lx,Option.some.injEq] at h;exact ⟨by simp,h.symm⟩
 | t ::l,r,h=>by
   unfold Lx at h
   by_cases hg:(decide (t.1>0)||Am t.2)=true
   ·rw [if_pos hg] at h;obtain ⟨h1,h2⟩:=Oc h;have hgf:Kq t=false:=by unfold Kq;rw [hg];rfl
    refine ⟨fun u hu hgu=> ?_, ?_⟩
    ·rcases List.mem_cons.1 hu with rfl|hu
     ·rw [hgf] at hgu;cases hgu
     exact h1 u hu hgu
    rw [h2];unfold Bm;rw [List.filter_cons_of_neg (by rw [hgf];simp)]
   rw [if_neg hg] at h;have hgt:Kq t=true:=by unfold Kq;simp only [Bool.not_eq_true] at hg;rw [hg];rfl
   simp only [Option.bind_eq_bind,Option.bind_eq_some_iff] at h;obtain ⟨x,hx,rest,hr,h⟩:=h;have hD:Pa st t=x:=by unfold Pa;rw [hx];rfl
   obtain ⟨h1,h2⟩:=Oc hr;refine ⟨fun u hu hgu=> ?_, ?_⟩
   ·rcases List.mem_cons.1 hu with rfl|hu
    ·rw [hx,hD]
    exact h1 u hu hgu
   subst h2;unfold Bm
   by_cases ha:((kof x kf==2)==arr)=true
   ·rw [if_pos ha] at h;rw [List.filter_cons_of_pos (by unfold BL;rw [hgt,hD,ha];rfl)]
    simpa [Bm] using h.symm
   rw [if_neg ha] at h;rw [List.filter_cons_of_neg (by unfold BL;rw [hgt,hD];simpa using ha)]
   simpa [Bm] using h.symm
theorem Lv{st:NS}{kf:Cs}{arr:Bool}{p l:List Ae}(h:p.Perm l):(Bm st kf arr p).Perm (Bm st kf arr l):=(h.filter _).map _
theorem Yw{st:NS}{kf:Cs}{arr:Bool}(l:List Ae):(Bm st kf arr l).length≤l.length:=by
 unfold Bm;rw [List.length_map];exact List.length_filter_le _ _
theorem Yv{st:NS}{kf:Cs}{arr:Bool}{t:Ae}(hg:Kq t=true)(ha:BL st kf t=arr)(p:List Ae):Bm st kf arr (p++ [t])=Bm st kf arr p++ [t.2]:=by
 unfold Bm;rw [List.filter_append,List.map_append,List.filter_cons_of_pos (by rw [hg,ha];simp)];rfl
theorem Lf{st:NS}{kf:Cs}{arr:Bool}{t:Ae}(h:Kq t=false∨BL st kf t= !arr)(p:List Ae):Bm st kf arr (p++ [t])=Bm st kf arr p:=by
 unfold Bm;rw [List.filter_append,List.map_append,List.filter_cons_of_neg (by rcases h with h|h<;>(rw [h];cases arr<;>simp))];simp
def Rr(_:World)(_:Nat→Prop)(u:Bool)(c:List Value):Prop:=c= [.bool u]
theorem Xm:Ho Rr 1:={
 keep:=fun h _ _ _=>h
 len:=fun h=>by rw [h];rfl
 one:=fun h u hu=>by rw [h] at hu;simp at hu;rw [hu];rfl}
def Hl(w:World)(S:Nat→Prop)(l:List Bool)(c:List Value):Prop:=∃a cap,c= [.slice a l.length cap]∧Aq Rr w S l (.slice a l.length cap)
theorem Bx:Ho Hl 1:={
 keep:=fun ⟨a,cap,h,hs⟩ hk hf hS=>⟨a,cap,h,(hs.kp Xm hk hf).to Xm hS⟩
 len:=fun ⟨_,_,h,_⟩=>by rw [h];rfl
 one:=fun ⟨_,_,h,_⟩ u hu=>by rw [h] at hu;simp at hu;rw [hu];rfl}
def AA(w:World)(S:Nat→Prop)(x:Xq)(v:Value):Prop:=∃sa sc aa ac pa pc,v= .agg #[.slice sa x.scalars.length sc,.slice aa x.arrays.length ac,.slice pa x.params.length pc]∧Aq Ef w S x.scalars (.slice sa x.scalars.length sc)∧Aq Ef w S x.arrays (.slice aa x.arrays.length ac)∧Aq Hl w S x.params (.slice pa x.params.length pc)
theorem AA.kp{w w':World}{S:Nat→Prop}{fp:List Nat}{x:Xq}{v:Value}(h:AA w S x v)(hk:Ac fp w w')(hf:∀x∈fp,¬S x):AA w' S x v:=by
 obtain ⟨sa,sc,aa,ac,pa,pc,h,h1,h2,h3⟩:=h;exact ⟨sa,sc,aa,ac,pa,pc,h,h1.kp Bu hk hf,h2.kp Bu hk hf,h3.kp Bx hk hf⟩
theorem IL{w:World}{s:ByteArray}{l:List ByteArray}{v:Value}{b:Nat}(h:w.ownsRow b 9 1 v l.length (l.map Value.string))(hn:l= []→v= .slice none 0 0)(hl:l.length≤1000000):Calls Tryz.prog 51 #[v,.string s] w fun r w'=>∃v',r= .returned v'∧w'.ownsRow w.heap.size 9 1 v' (Ep s l).length ((Ep s l).map Value.string)∧Ac [] w w':=by
 have hlen:(Ep s l).length=l.length+1:=by have:=(Ht s l).length_eq;simpa using this
 rw [hlen]
 cases hl0:l with
 |nil=>rw [hn hl0];exact TE
 |cons x m=>
  rw [←hl0];obtain ⟨-,⟨rfl,h0⟩|⟨g,cap,cur,rfl,hb,hh,hle,hmx,hcz,htk⟩⟩:=h
  ·rw [hl0] at h0;simp at h0
  refine TF hh (fun i hi=> ?_) (by rw [hl0];simp) hle hmx hl;have h1:(cur.toList.take (l.length*1))[i]? =some (.string l[i]):=by rw [htk];simp [hi]
  rw [List.getElem?_take,if_pos jh] at h1
  simpa using h1
def IE:ByteArray:=⟨#[78,82,32,78,70,32,70,83,32,79,70,83,32,79,82,83,32,82,83,32,83,85,66,83,69,80,32,67,79,78,86,70,77,84,32,79,70,77,84,32,82,83,84,65,82,84,32,82,76,69,78,71,84,72,32,78,79,87,32,71,65,80,83]⟩
def Xw:Nat→Nat×List ByteArray
 |0=>(0,[])
 |k+1=>if k=63∨IE.data[k]? =some 32 then (k+1,(Xw k).2++ [IE.extract (Xw k).1 k]) else Xw k
theorem SS:(Xw 64).2=specials:=by decide+kernel
theorem NJ:∀k,(Xw k).1≤k
 |0=>Nat.le_refl 0
 |k+1=>by rw [Xw];split;exact Nat.le_refl _;exact Nat.le_succ_of_le (NJ k)
theorem AH:∀k,(Xw k).2.length≤k
 |0=>Nat.le_refl 0
 |k+1=>by rw [Xw];split;(have:=AH k;simp;omega);exact Nat.le_succ_of_le (AH k)
theorem OX{ops:Array Oper}{rest:List Oper}{o:Oper}{a:Act}{w:World}{Q:Exit→Act→World→Prop}(hgd:o.guard=none)(s x:Operand)
  (ho:o.op= .call {callee:= .builtin .append,args:= #[s,x],argTypes:= #[22,22]}) {b:Nat} {v:Value} {n:Nat} {xs:List Value} (hs:a.eval s=v) (hown:w.ownsRow b 9 1 v n xs)
  (ad:Addr) (m c:Nat) {l:List ByteArray} (hx:a.eval x= .slice (some ad) m c) (hl:l.length=m) (hnews:∀j u,(l.map Value.string)[j]? =some u→w.cell? (ad.add j)=some u) (hn:n+m≤2000000) (hb:b≤w.heap.size)
  (h:∀v' w',w'.ownsRow b 9 1 v' (n+m) (xs++l.map Value.string)→Ac v.ownBlock.toList w w'→(v'.ownBlock=v.ownBlock∨v'.ownBlock=some w.heap.size)→wpList Tryz.prog ops Q rest (a.put o.dst v') w'):wpList Tryz.prog ops Q (o::rest) a w:=
 wpList_plain hgd fun K hK=>by
  have hw:Region.wanted o (yielded ops a.tmps)=true:=by simp [Region.wanted,hgd]
  have:=Fj (ops:=ops) (K:=K) (Q:=Q) (E:=False) hgd s x ho hs hown ad m c hx hl hnews hn hb fun v' w' h1 h2 h3=>hK _ _ (h v' w' h1 h2 h3)
  rwa [if_pos hw] at this
def SpI(w:World)(g:Nat)(v1 v2 j:Value)(W:World):Prop:=∃k:Nat,j= .int .i64 k∧k≤64∧g=65 -k∧v2= .int .i64 (Xw k).1∧W.ownsRow w.heap.size 9 1 v1 (Xw k).2.length ((Xw k).2.map Value.string)∧Ac [] w W
theorem sp7{p:Prop}(h:p:=by
 go_wp2_with (
  at_builtin
  go_loud (
   refine Hz (fun W=>Ac [] wr W∧W.heap[wr.heap.size]? =some (.cells #[.string (IE.extract F k)] 9 (0,0))) ⟨Av,by unfold IE;exact Nv⟩ ?_;rintro we ⟨hka,cG⟩;refine OX rfl (.tmp 15) (.tmp 19) rfl (b:=w.heap.size) (v:=u1) rfl (My HO.1 (fun g c h=>hka.at h qg)) ⟨wr.heap.size,0,none⟩ 1 1 (l:= [IE.extract F k]) rfl rfl (Jj (enc:=stC) rfl ⟨_,cG⟩) jh (Nat.le_trans HK.1.size hka.size) ?_;rintro v2 w2 hr2 hk2' hv2;have HK2:=zh ((HK.1.trans hka qg).trans hk2' (fun x hx=> .inr (Vx HO.1 x hx)));clear hk2' hv2 hka cG))
 go_roundg f
 case measure=>omega
 case rel=>exact ⟨k+1,by simp,by omega,by omega,by rw [HS.1];simp,by rw [HS.1];simpa using My hr2 (fun g c h=>Ac.at (fp:= []) Av h qg),HK2.1.trans (fp':= []) Av qg⟩):p:=h
theorem AG{w:World}:Calls Tryz.prog 84 #[] w fun r w'=>∃v,r= .returned v∧w'.ownsRow w.heap.size 9 1 v specials.length (specials.map Value.string)∧Ac [] w w':=by
 go_enter Tryz.func84,Tryz.ntmps84
 go_wp2_with fail
 go_loopg [1,2,3] 65 (fun g v1 v2 j wr=>SpI w g v1 v2 j wr)
 case atStart=>exact ⟨0,rfl,by omega,rfl,rfl,World.ownsRow_nil _ _ _ _,Av⟩
 obtain ⟨k,rfl,hk1,hk2,rfl,ho,hk⟩:=hrel;have hsl:=AH k;have HO:=zh ho;have HK:=zh hk;clear ho hk
 by_cases hkl:k<64
 ·cases gk with
  |zero=>omega
  | succ f=>
   have hki:(k:Int)≤63:=by omega
   have hfr:=NJ k;obtain ⟨F,hF⟩:∃F,F=(Xw k).1:=⟨_,rfl⟩;have HF:=zh hF;rw [←hF] at hfr⊢;clear hF
   by_cases h63:k=63
   ·have h63b:((k:Int)==63)=true:=by rw [h63];rfl
    have HS:=zh (show Xw (k+1)=(k+1,(Xw k).2++ [IE.extract F k]) by rw [Xw,if_pos (.inl h63),HF.1]);clear h63;exact sp7
   have h63b:((k:Int)==63)=false:=beq_false_of_ne jh;have hk63:k<63:=by omega
   cases hb:((IE[k]'(show k<63 from hk63)).toNat:Int)==32 with
   | true=>
    have HS:=zh (show Xw (k+1)=(k+1,(Xw k).2++ [IE.extract F k]) by
     have h1:(IE[k]'(show k<63 from hk63)).toNat=32:=by have:=eq_of_beq hb;omega
     have h2:IE[k]'(show k<63 from hk63)=32:=UInt8.toNat_inj.1 h1;have h3:IE.data[k]? =some 32:=Array.getElem?_eq_some_iff.2 ⟨hk63,h2⟩;rw [Xw,if_pos (.inr h3),HF.1])
    unfold IE at hb;clear h63;exact sp7
   | false=>
    have HS:=zh (show Xw (k+1)=Xw k by
     rw [Xw,if_neg];rintro (h|h)
     ·exact h63 h
     obtain ⟨h3,h4⟩:=Array.getElem?_eq_some_iff.1 h;have h5:(IE[k]'(show k<63 from hk63))=32:=h4;rw [h5] at hb;exact absurd hb zi)
    unfold IE at hb;clear h63
    go_wp2_with fail
    go_roundg f
    case measure=>omega
    case rel=>exact ⟨k+1,by simp,by omega,by omega,by rw [HS.1,HF.1],by rw [HS.1];exact My HO.1 (fun g c h=>Ac.at (fp:= []) Av h qg),HK.1.trans (fp':= []) Av qg⟩
 have h64:k=64:=by omega
 subst h64
 go_wp2_with fail
 refine Ap (fun W=>Ac [] wr W) Av (fun w1 hW=>by simp [results,Jo,go_sem];rfl) rfl (fun w1 hW=>⟨_,rfl, ?_,HK.1.trans hW qg⟩);have hx:=My HO.1 (fun g c h=>hW.at h qg);rw [SS] at hx;exact hx
theorem EB(g:Ah)(fn:Nat)(arr:Int)(ha:arr<0):∀(l:List Af) (i:Nat),Xt g fn arr i l=Nq g fn l
 | [],i=>by rw [Xt,Nq]
 |k::l,i=>by rw [Xt,Nq,if_neg jh,EB g fn arr ha l]
theorem DM{K:Br}(hK:Ff K){A:DA}{x:DX}{st st':DS}{w:World}{fn N:Nat}(h:DK K A x st w)(hi:DI st)(hrec:Xr K x fn N)(tx:ByteArray)(h1:(tx.toList== [115,112,108,105,116])=false)(h2:(tx.toList== [101,120,112,105,114,101])=false)(h3:(tx.toList== [108,101,110,103,116,104])=false)(fm:Nat)(na:Option Addr)(nc re im:Nat)(al:Bool)(kids:List Af)(hkl:kids.length≤1000000)(hkd:Bc K.w0 (fun _=>True) kids (.slice na kids.length nc))(hks:Ar kids≤N)(hwf:Oy kids)(hfk:∀kk∈kids,∃kd lo,Dg K.g fn kd lo kk=none)(hek:Ee (Nq K.g fn kids) st=some st'):Calls Tryz.prog 86 #[.pointer (some ⟨K.c,0,none⟩),.agg #[.int .i64 20,.string tx,.float .f64 fm,.slice na kids.length nc,.complex .f64 re im],.bool al] w fun r w'=>r= .returned (.tuple #[])∧(∃A',DK K A' x st' w')∧Bh w w'∧DI st':=by
 have HD0:=zh h;have HI:=zh hi;have HE:=zh hek;have HREC:=zh hrec;have HKD:=zh hkd;have HKS:=zh hks;have HWK:=zh (fun kk (hm:kk∈kids)=>Kk hwf hm);have HFK:=zh hfk;clear h hi hek hrec hkd hks hwf hfk;obtain ⟨kd,hkd⟩:∃kd:Int,kd=20:=⟨_,rfl⟩;have e4:(kd==4)=false:=by rw [hkd];rfl
 have e5:(kd==5)=false:=by rw [hkd];rfl
 have e11:(kd==11)=false:=by rw [hkd];rfl
 have e41:(kd==41)=false:=by rw [hkd];rfl
 have e35:(kd==35)=false:=by rw [hkd];rfl
 have e19:(kd==19)=false:=by rw [hkd];rfl
 have e20:(kd==20)=true:=by rw [hkd];rfl
 rw [←hkd];clear hkd;exact jle
def GaL(K:Br)(x:DX)(fn:Nat)(kids:List Af)(st':DS)(w:World)(B:Nat)(o:Obj)(g:Nat)(j:Value)(W:World):Prop:=
 ∃(k:Nat) (A:DA) (st:DS),j= .int .i64 k∧k≤kids.length∧g=kids.length+1 -k∧Ee ((kids.drop k).flatMap (EZ K.g fn true)) st=some st'∧DK K A x st W∧DI st∧Bh w W∧W.heap[B]? =some o
theorem PQ{K:Br}(hK:Ff K){A:DA}{x:DX}{st st':DS}{w:World}{fn N:Nat}(h:DK K A x st w)(hi:DI st)(hrec:Xr K x fn N)(fm:Nat)(na:Option Addr)(nc re im:Nat)(al:Bool)(kids:List Af)(hkl:kids.length≤1000000)(hkd:Bc K.w0 (fun _=>True) kids (.slice na kids.length nc))(hks:Ar kids≤N)(hwf:Oy kids)(hfk:∀kk∈kids,∃kd lo,Dg K.g fn kd lo kk=none)(hek:Ee (kids.flatMap (EZ K.g fn true)) st=some st'):Calls Tryz.prog 86 #[.pointer (some ⟨K.c,0,none⟩),.agg #[.int .i64 20,.string ⟨#[108,101,110,103,116,104]⟩,.float .f64 fm,.slice na kids.length nc,.complex .f64 re im],.bool al] w fun r w'=>r= .returned (.tuple #[])∧(∃A',DK K A' x st' w')∧Bh w w'∧DI st':=by
 have HD0:=zh h;have HI:=zh hi;have HE:=zh hek;have HREC:=zh hrec;have HKD:=zh hkd;have HKS:=zh hks;have HWK:=zh (fun kk (hm:kk∈kids)=>Kk hwf hm);have HFK:=zh hfk;clear h hi hek hrec hkd hks hwf hfk
 go_enter Tryz.func86,Tryz.ntmps86
 go_upto_region 13 with fail
 refine Bj (fun W=>Ac [] w W∧W.heap[w.heap.size]? =some (Gm 20 ⟨#[108,101,110,103,116,104]⟩ fm na kids.length nc re im)) ⟨Av,Nv⟩ ?_;rintro wq ⟨hka,hba⟩;have HB:=zh hba;have HS:=zh (KT.of0 (ts:=JK) hka);have HD:=zh (HD0.1.kp0 hka);clear hka hba
 go_wp2_with fail
 go_loopg [7] (kids.length+1) (fun g j wr=>GaL K x fn kids st' w w.heap.size (Gm 20 ⟨#[108,101,110,103,116,104]⟩ fm na kids.length nc re im) g j wr)
 case atStart=>exact ZQ
 clear HD HI HS HB HE;obtain ⟨k,A1,s1,rfl,hk1,hk2,he,hd,hi,hs,hb⟩:=hrel;have HD:=zh hd;have HS:=zh hs;have HB:=zh hb;have HI:=zh hi;have HE:=zh he;clear hd hs hb hi he;obtain ⟨l_B,x0,x1,x2,x3,x4,z0,z1,z2,z3,z4⟩:=Bv HB.1
 by_cases hlt:k<kids.length
 ·cases gk with
  |zero=>omega
  |succ f=>
   obtain ⟨g3,o3,fm3,na3,nc3,hna3,d0,d1,d2,d3,d4,hn,l2⟩:=Iy HD.1.keep HKD.1 hlt;subst hna3;have HN:=zh hn;have HSZ:=zh (Nat.le_trans (Hb (List.getElem_mem hlt)) HKS.1);have HWf:=zh (HWK.1 _ (List.getElem_mem hlt));have HFl:=zh (HFK.1 _ (List.getElem_mem hlt));have h:=HE.1;rw [List.drop_eq_getElem_cons hlt,List.flatMap_cons,Cl,Option.bind_eq_some_iff] at h;obtain ⟨s2,h1,h2⟩:=h;have HE1:Hd (Ee (EZ K.g fn true kids[k]) s1=some s2):=zh h1;have HE2:=zh h2;clear hn h1 h2 HE;generalize kids[k]=kk at*
   exact XQ
 have hke:k=kids.length:=by omega
 subst hke;have hst:s1=st':=by have h:=HE.1;rw [List.drop_length,List.flatMap_nil] at h;cases h;rfl
 exact zfe
end Go.Proofs.YtkfillfkbhbbjaaGreatDoor
