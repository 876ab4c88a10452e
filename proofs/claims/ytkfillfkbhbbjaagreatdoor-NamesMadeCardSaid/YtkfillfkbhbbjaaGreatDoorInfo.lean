/- Info. -/
import Derived.Test.YtkfillfkbhbbjaaGreatDoorArr
import Derived.Test.YtkfillfkbhbbjaaGreatDoorNodA
import Derived.Test.YtkfillfkbhbbjaaGreatDoorDWq
set_option maxRecDepth 100000
set_option maxHeartbeats 4000000
set_option linter.unusedSimpArgs false
set_option linter.unusedVariables false
namespace Go.Proofs.YtkfillfkbhbbjaaGreatDoor
open Go.RowKit
theorem Fr.plen{w:World}{r b:Nat}{l p:List Ae}{n:Nat}(h:Fr w r b l p n):p.length+n=l.length:=by
 obtain ⟨es,ps,qs,k,h1,h2,h3,h4,rfl,rfl⟩:=h;have:=h4.length_eq;rw [List.length_append] at this;rw [List.length_map,this,←h2.keys,List.length_map]
theorem NV{K:Ba}{T:Nat→Prop}{ua:Option Addr}{uc:Nat}{st:NS}{w:World}(h:CK K T ua uc st w){t r:Ae}{fu:Nat}(hx:Dw st.same fu t=some r){z:Int}(hz:z=t.1){s:ByteArray}(hs:s=t.2):Calls Tryz.prog 45 #[.pointer (some ⟨K.c,0,none⟩),.agg #[.int .i64 z,.string s]] w fun q w'=>q= .returned (.agg #[.int .i64 r.1,.string r.2])∧Ac [] w w':=by
 subst hz;subst hs;exact El h hx
structure Mr (b B:Nat) (sc ar:List ByteArray) (sv av:Value) (T1 T2:Nat→Prop) (W:World):Prop where
 sc:Ax Ef 9 1 W b T1 sc sv
 ar:Ax Ef 9 1 W b T2 ar av
 u1:∀x,T1 x→x<W.heap.size
 u2:∀x,T2 x→x<W.heap.size
 d1:∀x,T1 x→B≤x
 d2:∀x,T2 x→B≤x
 dj:∀x,T1 x→¬T2 x
section
variable {b B:Nat} {sc ar:List ByteArray} {sv av v:Value} {T1 T2:Nat→Prop} {W W':World} {fp fl:List Nat}
theorem Mr.kp(h:Mr b B sc ar sv av T1 T2 W)(hk:Ac fp W W')(hf:∀x∈fp,x<B):Mr b B sc ar sv av T1 T2 W':=
 ⟨h.sc.kp Bu hk fun x hx ht=>Nat.not_lt_of_le (h.d1 x ht) (hf x hx),h.ar.kp Bu hk fun x hx ht=>Nat.not_lt_of_le (h.d2 x ht) (hf x hx),fun x hx=>Nat.lt_of_lt_of_le (h.u1 x hx) hk.size,fun x hx=>Nat.lt_of_lt_of_le (h.u2 x hx) hk.size,h.d1,h.d2,h.dj⟩
theorem Mr.app1(h:Mr b B sc ar sv av T1 T2 W)(hb:B≤W.heap.size)(hk:Ac fl W W')(hfl:∀x∈fl,T1 x){l:List ByteArray}(ho:Ax Ef 9 1 W' b (fun g=>T1 g∨(W.heap.size≤g∧g<W'.heap.size)) l v):Mr b B l ar v av (fun g=>T1 g∨(W.heap.size≤g∧g<W'.heap.size)) T2 W':=
 ⟨ho,h.ar.kp Bu hk fun x hx=>h.dj x (hfl x hx),fun x hx=>hx.elim (fun hx=>Nat.lt_of_lt_of_le (h.u1 x hx) hk.size) fun hx=>hx.2,fun x hx=>Nat.lt_of_lt_of_le (h.u2 x hx) hk.size,fun x hx=>hx.elim (h.d1 x) fun hx=>Nat.le_trans hb hx.1,h.d2,fun x hx h2=>hx.elim (fun hx=>h.dj x hx h2) fun hx=>Nat.not_lt_of_le hx.1 (h.u2 x h2)⟩
theorem Mr.app2(h:Mr b B sc ar sv av T1 T2 W)(hb:B≤W.heap.size)(hk:Ac fl W W')(hfl:∀x∈fl,T2 x){l:List ByteArray}(ho:Ax Ef 9 1 W' b (fun g=>T2 g∨(W.heap.size≤g∧g<W'.heap.size)) l v):Mr b B sc l sv v T1 (fun g=>T2 g∨(W.heap.size≤g∧g<W'.heap.size)) W':=
 ⟨h.sc.kp Bu hk fun x hx ht=>h.dj x ht (hfl x hx),ho,fun x hx=>Nat.lt_of_lt_of_le (h.u1 x hx) hk.size,fun x hx=>hx.elim (fun hx=>Nat.lt_of_lt_of_le (h.u2 x hx) hk.size) fun hx=>hx.2,h.d1,fun x hx=>hx.elim (h.d2 x) fun hx=>Nat.le_trans hb hx.1,fun x hx h2=>h2.elim (fun h2=>h.dj x hx h2) fun h2=>Nat.not_lt_of_le h2.1 (h.u1 x hx)⟩
theorem Mr.to1(h:Mr b B sc ar sv av T1 T2 W)(hk:Ac fl W W')(hfl:∀x∈fl,T1 x){l:List ByteArray}(ho:Ax Ef 9 1 W' b T1 l sv):Mr b B l ar sv av T1 T2 W':=
 ⟨ho,h.ar.kp Bu hk fun x hx=>h.dj x (hfl x hx),fun x hx=>Nat.lt_of_lt_of_le (h.u1 x hx) hk.size,fun x hx=>Nat.lt_of_lt_of_le (h.u2 x hx) hk.size,h.d1,h.d2,h.dj⟩
theorem Mr.to2(h:Mr b B sc ar sv av T1 T2 W)(hk:Ac fl W W')(hfl:∀x∈fl,T2 x){l:List ByteArray}(ho:Ax Ef 9 1 W' b T2 l av):Mr b B sc l sv av T1 T2 W':=
 ⟨h.sc.kp Bu hk fun x hx ht=>h.dj x ht (hfl x hx),ho,fun x hx=>Nat.lt_of_lt_of_le (h.u1 x hx) hk.size,fun x hx=>Nat.lt_of_lt_of_le (h.u2 x hx) hk.size,h.d1,h.d2,h.dj⟩
end
structure Qb (b B C U:Nat) (sc ar:List ByteArray) (sv av pv:Value) (acc:List (List Bool)) (T3:Nat→Prop) (W:World):Prop where
 sc:Aq Ef W (fun g=>B≤g∧g<C) sc sv
 ar:Aq Ef W (fun g=>B≤g∧g<C) ar av
 fs:Ax Hl 36 1 W b T3 acc pv
 u3:∀x,T3 x→x<U
 us:U≤W.heap.size
 d3:∀x,T3 x→C≤x
 bc:B≤C
 cs:C≤W.heap.size
section
variable {b B C U:Nat} {sc ar:List ByteArray} {sv av pv v:Value} {acc:List (List Bool)} {T3 T4:Nat→Prop} {W W':World} {fp fl:List Nat}
theorem Mr.three{T1 T2:Nat→Prop}(h:Mr b B sc ar sv av T1 T2 W)(hb:B≤W.heap.size):Qb b B W.heap.size W.heap.size sc ar sv av (.slice none 0 0) [] (fun _=>False) W:=
 ⟨(Eg Bu h.sc).to Bu fun x hx=>⟨h.d1 x hx,h.u1 x hx⟩,(Eg Bu h.ar).to Bu fun x hx=>⟨h.d2 x hx,h.u2 x hx⟩,Ax.nil,fun _ h=>h.elim,Nat.le_refl _,fun _ h=>h.elim,hb,Nat.le_refl _⟩
theorem Qb.kp(h:Qb b B C U sc ar sv av pv acc T3 W)(hk:Ac fp W W')(hf:∀x∈fp,x<B):Qb b B C U sc ar sv av pv acc T3 W':=
 ⟨h.sc.kp Bu hk fun x hx ht=>Nat.not_lt_of_le ht.1 (hf x hx),h.ar.kp Bu hk fun x hx ht=>Nat.not_lt_of_le ht.1 (hf x hx),h.fs.kp Bx hk fun x hx ht=>Nat.not_lt_of_le (Nat.le_trans h.bc (h.d3 x ht)) (hf x hx),h.u3,Nat.le_trans h.us hk.size,h.d3,h.bc,Nat.le_trans h.cs hk.size⟩
theorem Qb.far(h:Qb b B C U sc ar sv av pv acc T3 W)(hk:Ac fp W W')(hf:∀x∈fp,U≤x)(hcu:C≤U):Qb b B C U sc ar sv av pv acc T3 W':=
 ⟨h.sc.kp Bu hk fun x hx ht=>Nat.not_lt_of_le (Nat.le_trans hcu (hf x hx)) ht.2,h.ar.kp Bu hk fun x hx ht=>Nat.not_lt_of_le (Nat.le_trans hcu (hf x hx)) ht.2,h.fs.kp Bx hk fun x hx ht=>Nat.not_lt_of_le (hf x hx) (h.u3 x ht),h.u3,Nat.le_trans h.us hk.size,h.d3,h.bc,Nat.le_trans h.cs hk.size⟩
theorem Qb.up(h:Qb b B C U sc ar sv av pv acc T3 W):Qb b B C W.heap.size sc ar sv av pv acc T3 W:=⟨h.sc,h.ar,h.fs,fun x hx=>Nat.lt_of_lt_of_le (h.u3 x hx) h.us,Nat.le_refl _,h.d3,h.bc,h.cs⟩
theorem Qb.app(h:Qb b B C U sc ar sv av pv acc T3 W)(hcu:C≤U)(hk:Ac fl W W')(hfl:∀x∈fl,T3 x){l:List (List Bool)}(h4:∀x,T4 x→U≤x)(h4u:∀x,T4 x→x<W.heap.size)(ho:Ax Hl 36 1 W' b (fun g=>T3 g∨T4 g∨(W.heap.size≤g∧g<W'.heap.size)) l v):Qb b B C W'.heap.size sc ar sv av v l (fun g=>T3 g∨T4 g∨(W.heap.size≤g∧g<W'.heap.size)) W':=
 ⟨h.sc.kp Bu hk fun x hx ht=>Nat.not_lt_of_le (h.d3 x (hfl x hx)) ht.2,h.ar.kp Bu hk fun x hx ht=>Nat.not_lt_of_le (h.d3 x (hfl x hx)) ht.2,ho,fun x hx=>hx.elim (fun hx=>Nat.lt_of_lt_of_le (Nat.lt_of_lt_of_le (h.u3 x hx) h.us) hk.size) fun hx=>hx.elim (fun hx=>Nat.lt_of_lt_of_le (h4u x hx) hk.size) fun hx=>hx.2,Nat.le_refl _,fun x hx=>hx.elim (h.d3 x) fun hx=>hx.elim (fun hx=>Nat.le_trans hcu (h4 x hx)) fun hx=>Nat.le_trans h.cs hx.1,h.bc,Nat.le_trans h.cs hk.size⟩
end
structure GW (b U:Nat) (l:List Bool) (v:Value) (T4:Nat→Prop) (W:World):Prop where
 fs:Ax Rr 4 1 W b T4 l v
 u4:∀x,T4 x→x<W.heap.size
 d4:∀x,T4 x→U≤x
theorem GW.kp{b U:Nat}{l:List Bool}{v:Value}{T4:Nat→Prop}{W W':World}{fp:List Nat}(h:GW b U l v T4 W)(hk:Ac fp W W')(hf:∀x∈fp,x<U):GW b U l v T4 W':=
 ⟨h.fs.kp Xm hk fun x hx ht=>Nat.not_lt_of_le (h.d4 x ht) (hf x hx),fun x hx=>Nat.lt_of_lt_of_le (h.u4 x hx) hk.size,h.d4⟩
theorem GW.app{b U:Nat}{l m:List Bool}{v v':Value}{T4:Nat→Prop}{W W':World}{fl:List Nat}(h:GW b U l v T4 W)(hu:U≤W.heap.size)(hk:Ac fl W W')(ho:Ax Rr 4 1 W' b (fun g=>T4 g∨(W.heap.size≤g∧g<W'.heap.size)) m v'):GW b U m v' (fun g=>T4 g∨(W.heap.size≤g∧g<W'.heap.size)) W':=
 ⟨ho,fun x hx=>hx.elim (fun hx=>Nat.lt_of_lt_of_le (h.u4 x hx) hk.size) fun hx=>hx.2,fun x hx=>hx.elim (h.d4 x) fun hx=>Nat.le_trans hu hx.1⟩
theorem WE:∃i,Tryz.prog.info? 4=some i∧i.zero=some (.bool false)∧i.size=1∧i.bytes=1:=by
 have h:(Tryz.prog.info? 4).map (fun i=>(i.zero,i.size,i.bytes))=some (some (.bool false),1,1):=by kernel_rfl
 cases hi:Tryz.prog.info? 4 with
 |none=>rw [hi] at h;cases h
 |some i=>rw [hi] at h;simp at h;exact ⟨i,rfl,h.1,h.2.1,h.2.2⟩
theorem PK:∃i,Tryz.prog.info? 36=some i∧i.zero=some (.slice none 0 0)∧i.size=1∧i.bytes=24:=by
 have h:(Tryz.prog.info? 36).map (fun i=>(i.zero,i.size,i.bytes))=some (some (.slice none 0 0),1,24):=by kernel_rfl
 cases hi:Tryz.prog.info? 36 with
 |none=>rw [hi] at h;cases h
 |some i=>rw [hi] at h;simp at h;exact ⟨i,rfl,h.1,h.2.1,h.2.2⟩
theorem EQ{ops:Array Oper}{rest:List Oper}{o:Oper}{a:Act}{w:World}{Q:Exit→Act→World→Prop}(hgd:o.guard=none)(s y:Operand)(ho:o.op= .call {callee:= .builtin .append,args:= #[s,y],argTypes:= #[36,36]}){b G cap:Nat}{T:Nat→Prop}{l:List Bool}{x:Bool}{v:Value}(hs:a.eval s=v)(hy:a.eval y= .slice (some ⟨G,0,none⟩) 1 cap)(hO:Ax Rr 4 1 w b T l v)(hG:w.heap[G]? =some (.cells #[.bool x] 4 (0,0)))(hT:∀g,T g→g<w.heap.size)(hb:b≤w.heap.size)(hl:l.length≤400000)(h:∀v' w' fl,(∀x∈fl,T x)→Ac fl w w'→Ax Rr 4 1 w' b (fun g=>T g∨(w.heap.size≤g∧g<w'.heap.size)) (l++ [x]) v'→wpList Tryz.prog ops Q rest (a.put o.dst v') w'):wpList Tryz.prog ops Q (o::rest) a w:=by
 obtain ⟨i,hi,hz,hsz,hby⟩:=WE
 exact Ig Xm hgd s y 36 ho Tryz.underlying36 hi hz hsz hby rfl zi zi hs hy hO (S:=fun _=>False) (c:= [.bool x]) hG rfl (fun _ h=>h.elim) (fun _ h=>h.elim) hT hb hl
  fun v' w' fl h1 h2 h3=>h v' w' fl h1 h2 (h3.to Xm fun g hg=>hg.elim .inl fun hg=>hg.elim (fun h=>h.elim) .inr)
theorem MN{ops:Array Oper}{rest:List Oper}{o:Oper}{a:Act}{w:World}{Q:Exit→Act→World→Prop}(hgd:o.guard=none)(s y:Operand)(ho:o.op= .call {callee:= .builtin .append,args:= #[s,y],argTypes:= #[23,23]}){b G cap:Nat}{T S:Nat→Prop}{l:List (List Bool)}{x:List Bool}{v:Value}{xa:Option Addr}{n xc:Nat}(hs:a.eval s=v)(hy:a.eval y= .slice (some ⟨G,0,none⟩) 1 cap)(hO:Ax Hl 36 1 w b T l v)(hG:w.heap[G]? =some (.cells #[.slice xa n xc] 36 (0,0)))(hn:n=x.length)(hx:Aq Rr w S x (.slice xa x.length xc))(hd:∀g,S g→¬T g)(hS:∀g,S g→g<w.heap.size)(hT:∀g,T g→g<w.heap.size)(hb:b≤w.heap.size)(hl:l.length≤400000)(h:∀v' w' fl,(∀x∈fl,T x)→Ac fl w w'→Ax Hl 36 1 w' b (fun g=>T g∨S g∨(w.heap.size≤g∧g<w'.heap.size)) (l++ [x]) v'→wpList Tryz.prog ops Q rest (a.put o.dst v') w'):wpList Tryz.prog ops Q (o::rest) a w:=by
 obtain ⟨i,hi,hz,hsz,hby⟩:=PK;subst hn;exact Ig Bx hgd s y 23 ho Tryz.underlying23 hi hz hsz hby rfl zi zi hs hy hO (c:= [.slice xa x.length xc]) hG ⟨xa,xc,rfl,hx⟩ hd hS hT hb hl h
def Aam(K:Ba)(st:NS)(kf:Cs)(w:World)(R X kb it B:Nat)(g:Nat)(W:World):Prop:=
 ∃(p:List Ae) (n:Nat) (sv av:Value) (T1 T2:Nat→Prop),Fr W it K.mn st.seen p n∧g=n+1∧Mr w.heap.size B (Bm st kf false p) (Bm st kf true p) sv av T1 T2 W∧Ex W kb (fun x=>kof x kf)∧Ac [] w W∧W.heap[R]? =some (.cells #[.slice none 0 0,.slice none 0 0,.slice none 0 0] 25 (0,0))∧W.heap[X]? =some (.cells #[sv,av,.slice none 0 0] 25 (0,0))
def Aal(K:Ba)(st:NS)(kf:Cs)(ps:List (List Bool))(w:World)(R X kb B C:Nat)(sc ar:List ByteArray)(sv av:Value)(g:Nat)(j:Value)(W:World):Prop:=
 ∃k:Nat,j= .int .i64 k∧k≤K.g.funcs.length∧g+k=K.g.funcs.length+1∧∃(acc rest:List (List Bool)) (pv:Value) (T3:Nat→Prop) (U:Nat),Lw st kf k (K.g.funcs.drop k)=some rest∧acc++rest=ps∧acc.length=k∧Qb w.heap.size B C U sc ar sv av pv acc T3 W∧Ex W kb (fun x=>kof x kf)∧Ac [] w W∧W.heap[R]? =some (.cells #[.slice none 0 0,.slice none 0 0,.slice none 0 0] 25 (0,0))∧W.heap[X]? =some (.cells #[sv,av,pv] 25 (0,0))
def Aak(K:Ba)(st:NS)(kf:Cs)(k:Nat)(params:List ByteArray)(xs:List Bool)(w:World)(R X kb B C U:Nat)(sc ar:List ByteArray)(sv av pv:Value)(acc:List (List Bool))(T3:Nat→Prop)(g:Nat)(l j:Value)(W:World):Prop:=
 ∃i:Nat,j= .int .i64 i∧i≤params.length∧g+i=params.length+1∧∃(a4 rest:List Bool) (T4:Nat→Prop),Vw st kf k (params.drop i)=some rest∧a4++rest=xs∧a4.length=i∧GW w.heap.size U a4 l T4 W∧Qb w.heap.size B C U sc ar sv av pv acc T3 W∧Ex W kb (fun x=>kof x kf)∧Ac [] w W∧W.heap[R]? =some (.cells #[.slice none 0 0,.slice none 0 0,.slice none 0 0] 25 (0,0))∧W.heap[X]? =some (.cells #[sv,av,pv] 25 (0,0))
theorem PH{K:Ba}(hK:Dp K){T:Nat→Prop}{ua:Option Addr}{uc:Nat}{st:NS}{w:World}(h:CK K T ua uc st w){kf:Cs}{x:Xq}(hkf:Mb st=some kf)(hul:st.uses.length≤1000000)(hsl:st.seen.length≤400000)(hfl0:K.g.funcs.length≤400000)(hpl0:∀f∈K.g.funcs,f.params.length≤400000)(hxi:DL st kf K.g=some x):Calls Tryz.prog 27 #[.pointer (some ⟨K.c,0,none⟩)] w fun r w'=>∃v,r= .returned v∧AA w' (fun g=>w.heap.size≤g) x v∧Ac [] w w':=by
 unfold DL at hxi;simp only [Option.bind_eq_bind,Option.bind_eq_some_iff,Option.some.injEq] at hxi;obtain ⟨sc0,hns,ar0,hna,ps,hps,rfl⟩:=hxi;obtain ⟨hroots,hsc0⟩:=Oc hns;obtain ⟨-,har0⟩:=Oc hna;have HRO:=zh hroots;have HNS:=zh hsc0;have HNA:=zh har0;have HPS0:=zh hps;have HKF:=zh hkf;have HPL0:=zh hpl0;clear hns hna hps hroots hsc0 har0 hkf hpl0;have HC0:=zh h;have HK0:=zh (Ac.refl [] w);clear h;obtain ⟨fa,hfa0⟩:∃x,K.fa=x:=⟨_,rfl⟩
 go_enter Tryz.func27,Tryz.ntmps27
 have l_c:=Ad (HC0.1.kp0 HK0.1).row;have l_mn:=(HC0.1.kp0 HK0.1).lt.2.2.2
 go_wp2_with fail
 refine An (fun W=>Ac [] w W∧W.heap[w.heap.size]? =some (.cells #[.slice none 0 0,.slice none 0 0,.slice none 0 0] 25 (0,0))) ⟨jg,jb⟩ ?_;rintro w1 ⟨Kw1,cw1_R⟩;have ⟨n_c_R,n_R_c⟩:=Ai l_c;have ⟨n_mn_R,n_R_mn⟩:=Ai l_mn;have o_R:w.heap.size≤w.heap.size:=Nat.le_refl _;have HKw1:=zh (HK0.1.trans Kw1 qg);have Rw1_R:=zh cw1_R;clear Kw1 cw1_R l_c l_mn HK0;refine (Ze hK (HC0.1.kp0 HKw1.1) HKF.1 hul).mono ?_;rintro r e2 ⟨kb,rfl,hle,hkb,hk⟩;have Re2_R:=zh (hk.at Rw1_R.1 qg);have HKe2:=zh (HKw1.1.trans hk qg);have HKB:=zh hkb;have hwk:w.heap.size≤kb:=Nat.le_trans (HKw1.1.size) hle;have l_Rk:=Nat.lt_of_lt_of_le (Ad Rw1_R.1) hle;have n_R_kb:w.heap.size≠kb:=Nat.ne_of_lt l_Rk;have n_kb_R:=Ne.symm n_R_kb;have n_kb_c:kb≠K.c:=fun e=>by have:=HC0.1.lt.1;omega
 have n_c_kb:=Ne.symm n_kb_c;have n_kb_mn:kb≠K.mn:=fun e=>by have:=HC0.1.lt.2.2.2;omega
 have n_mn_kb:=Ne.symm n_kb_mn;have o_kb:=hwk;clear hkb hle;clear hk Rw1_R HKw1;have l_c:=Ad (HC0.1.kp0 HKe2.1).row;have l_R:=Ad Re2_R.1;have l_mn:=(HC0.1.kp0 HKe2.1).lt.2.2.2;have l_kb:=HKB.1.lt
 go_upto_region 3 with fail
 refine Bj (fun W=>Ac [] e2 W∧W.heap[e2.heap.size]? =some (.cells #[.slice none 0 0,.slice none 0 0,.slice none 0 0] 25 (0,0))) ⟨jg,jb⟩ ?_;rintro w3 ⟨Kw3,cw3_X⟩;have ⟨n_c_X,n_X_c⟩:=Ai l_c;have ⟨n_mn_X,n_X_mn⟩:=Ai l_mn;have ⟨n_R_X,n_X_R⟩:=Ai l_R;have ⟨n_kb_X,n_X_kb⟩:=Ai l_kb;have o_X:w.heap.size≤e2.heap.size:=HKe2.1.size;have Rw3_R:=zh (Kw3.at Re2_R.1 qg);have HKw3:=zh (HKe2.1.trans Kw3 qg);have HKkbw3:=zh (HKB.1.keep Kw3 qg);have Rw3_X:=zh cw3_X;clear Kw3 cw3_X l_c l_R l_mn l_kb Re2_R HKe2 HKB;obtain ⟨l_c,xc_0,xc_1,xc_2,xc_3,xc_4,xc_5,xc_6,xc_7,xc_8,xc_9,xc_10,yc_0,yc_1,yc_2,yc_3,yc_4,yc_5,yc_6,yc_7,yc_8,yc_9,yc_10⟩:=Cp (HC0.1.kp0 HKw3.1).row;have l_R:=Ad Rw3_R.1;have l_X:=Ad Rw3_X.1;have l_mn:=(HC0.1.kp0 HKw3.1).lt.2.2.2;have l_kb:=HKkbw3.1.lt;obtain ⟨w4,hrun,k4,hsz,hrs⟩:=Fr.start (HC0.1.kp0 HKw3.1).seen Tryz.underlying67;obtain ⟨it,hit⟩:∃x,x=w3.heap.size:=⟨_,rfl⟩;rw [←hit] at hrun hsz hrs;have b_R:w.heap.size<it+1:=hit▸Nat.lt_succ_of_lt (Ad Rw3_R.1);have b_X:e2.heap.size<it+1:=hit▸Nat.lt_succ_of_lt (Ad Rw3_X.1);have b_kb:kb<it+1:=hit▸Nat.lt_succ_of_lt HKkbw3.1.lt;have b_it:it<it+1:=Nat.lt_succ_self _;have hwb:w.heap.size≤it+1:=hit▸Nat.le_succ_of_le HKw3.1.size;have b_mn:K.mn<it+1:=Nat.lt_of_lt_of_le HC0.1.lt.2.2.2 hwb
 have b_c:K.c<it+1:=Nat.lt_of_lt_of_le HC0.1.lt.1 hwb;have n_R_it:w.heap.size≠it:=hit▸Nat.ne_of_lt (Ad Rw3_R.1);have n_X_it:e2.heap.size≠it:=hit▸Nat.ne_of_lt (Ad Rw3_X.1);have n_kb_it:kb≠it:=hit▸Nat.ne_of_lt HKkbw3.1.lt;have n_mn_it:K.mn≠it:=hit▸Nat.ne_of_lt (Nat.lt_of_lt_of_le HC0.1.lt.2.2.2 HKw3.1.size);have n_it_R:=Ne.symm n_R_it;have n_it_X:=Ne.symm n_X_it;have n_it_kb:=Ne.symm n_kb_it;have n_it_mn:=Ne.symm n_mn_it;have hw4:it+1≤w4.heap.size:=Nat.le_of_eq hsz.symm;have HR4:=zh hrs;have Rw4_R:=zh (k4.at Rw3_R.1 qg);have Rw4_X:=zh (k4.at Rw3_X.1 qg);have HKw4:=zh (HKw3.1.trans k4 qg);have HKkbw4:=zh (HKkbw3.1.keep k4 qg);clear hrs hsz hit
 go_wp2_with fail
 clear l_c xc_0 xc_1 xc_2 xc_3 xc_4 xc_5 xc_6 xc_7 xc_8 xc_9 xc_10 yc_0 yc_1 yc_2 yc_3 yc_4 yc_5 yc_6 yc_7 yc_8 yc_9 yc_10 l_R l_X l_mn l_kb hrun
 go_loopg [] (st.seen.length+1) (fun g wr=>Aam K st kf w (w.heap.size) (e2.heap.size) kb it (it+1) g wr)
 case atStart=>exact ⟨[],st.seen.length,.slice none 0 0,.slice none 0 0,fun _=>False,fun _=>False,HR4.1,rfl,⟨Ax.nil,Ax.nil,fun _ h=>h.elim,fun _ h=>h.elim,fun _ h=>h.elim,fun _ h=>h.elim,fun _ h=>h.elim⟩,HKkbw4.1,HKw4.1,Rw4_R.1,Rw4_X.1⟩
 rename World=>wo
 obtain ⟨p,n,sv,av,T1,T2,hrs,hg,ho,hkb,hk,hR,hX⟩:=hrel;have hplen:=hrs.plen;obtain ⟨sa,sc,rfl,-⟩:=ho.sc.slice;obtain ⟨aa,ac,rfl,-⟩:=ho.ar.slice;have HKBwo:=zh hkb;have HKwo:=zh hk;have HOwo:=zh ho;have RRwo:=zh hR;have RXwo:=zh hX;clear hkb hk ho hR hX;have HLS:Hd ((Bm st kf false p).length≤400000):=zh (Nat.le_trans (Yw p) jh);have HLA:Hd ((Bm st kf true p).length≤400000):=zh (Nat.le_trans (Yw p) jh)
 rcases hrs.next 0 with ⟨hperm,hrun2⟩|⟨t,n2,wn,ht,hn,hrun2,hkn,hszn,hrn⟩
 ·have HL1:Hd ((Bm st kf false p).length≤1000000):=zh (Nat.le_trans HLS.1 jh);have HL2:Hd ((Bm st kf true p).length≤1000000):=zh (Nat.le_trans HLA.1 jh);have HRwo:=zh hrs;have HLES:Hd ((Bm st kf false p).length=(Cr sc0).length):=zh (by rw [(Gw sc0).length_eq,HNS.1,(Lv hperm).length_eq]);have HLEA:Hd ((Bm st kf true p).length=(Cr ar0).length):=zh (by rw [(Gw ar0).length_eq,HNA.1,(Lv hperm).length_eq]);clear hrs hplen HLS HLA;have l_c:=Ad (HC0.1.kp0 HKwo.1).row;have l_R:=Ad RRwo.1;obtain ⟨l_X,xX⟩:=Lr RXwo.1;have l_mn:=(HC0.1.kp0 HKwo.1).lt.2.2.2;have l_kb:=HKBwo.1.lt;have l_it:=HRwo.1.lt.1
  go_wp2_with fail
  clear l_c l_R l_X xX l_mn l_kb l_it;refine (CC HOwo.1.sc HL1.1).mono ?_;rintro r e51 ⟨rfl,ho,fl,hfl,hk⟩;have Re51_R:=zh (hk.at RRwo.1 (fun h=>Nat.not_lt_of_le (HOwo.1.d1 _ (hfl _ h)) b_R));have Re51_X:=zh (hk.at RXwo.1 (fun h=>Nat.not_lt_of_le (HOwo.1.d1 _ (hfl _ h)) b_X));have HKe51:=zh (HKwo.1.trans hk (fun x h=> .inr (Nat.le_trans hwb (HOwo.1.d1 x (hfl x h)))));have HKkbe51:=zh (HKBwo.1.keep hk (fun h=>Nat.not_lt_of_le (HOwo.1.d1 _ (hfl _ h)) b_kb));have HRe51:=zh (HRwo.1.keep hk (fun h=>Nat.not_lt_of_le (HOwo.1.d1 _ (hfl _ h)) b_mn) (fun h=>Nat.not_lt_of_le (HOwo.1.d1 _ (hfl _ h)) b_it));have HOe51:=zh (HOwo.1.to1 hk hfl ho);clear ho hfl HOwo;clear hk RRwo RXwo HKwo HKBwo HRwo;have l_c:=Ad (HC0.1.kp0 HKe51.1).row;have l_R:=Ad Re51_R.1;obtain ⟨l_X,xX⟩:=Lr Re51_X.1;have l_mn:=(HC0.1.kp0 HKe51.1).lt.2.2.2;have l_kb:=HKkbe51.1.lt;have l_it:=HRe51.1.lt.1
  go_wp2_with fail
  clear l_c l_R l_X xX l_mn l_kb l_it;refine (CC HOe51.1.ar HL2.1).mono ?_;rintro r e52 ⟨rfl,ho,fl,hfl,hk⟩;have Re52_R:=zh (hk.at Re51_R.1 (fun h=>Nat.not_lt_of_le (HOe51.1.d2 _ (hfl _ h)) b_R));have Re52_X:=zh (hk.at Re51_X.1 (fun h=>Nat.not_lt_of_le (HOe51.1.d2 _ (hfl _ h)) b_X));have HKe52:=zh (HKe51.1.trans hk (fun x h=> .inr (Nat.le_trans hwb (HOe51.1.d2 x (hfl x h)))));have HKkbe52:=zh (HKkbe51.1.keep hk (fun h=>Nat.not_lt_of_le (HOe51.1.d2 _ (hfl _ h)) b_kb));have HRe52:=zh (HRe51.1.keep hk (fun h=>Nat.not_lt_of_le (HOe51.1.d2 _ (hfl _ h)) b_mn) (fun h=>Nat.not_lt_of_le (HOe51.1.d2 _ (hfl _ h)) b_it));have HOe52:=zh (HOe51.1.to2 hk hfl ho);clear ho hfl HOe51;clear hk Re51_R Re51_X HKe51 HKkbe51 HRe51;obtain ⟨l_c,xc_0,xc_1,xc_2,xc_3,xc_4,xc_5,xc_6,xc_7,xc_8,xc_9,xc_10,yc_0,yc_1,yc_2,yc_3,yc_4,yc_5,yc_6,yc_7,yc_8,yc_9,yc_10⟩:=Cp (HC0.1.kp0 HKe52.1).row;have l_R:=Ad Re52_R.1;have l_X:=Ad Re52_X.1;have l_mn:=(HC0.1.kp0 HKe52.1).lt.2.2.2;have l_kb:=HKkbe52.1.lt;have l_it:=HRe52.1.lt.1;rw [hfa0] at xc_1
  go_wp2_with fail
  clear l_c xc_0 xc_1 xc_2 xc_3 xc_4 xc_5 xc_6 xc_7 xc_8 xc_9 xc_10 yc_0 yc_1 yc_2 yc_3 yc_4 yc_5 yc_6 yc_7 yc_8 yc_9 yc_10 l_R l_X l_mn l_kb l_it;have hbw:it+1≤e52.heap.size:=HRe52.1.lt.1;have hwC0:w.heap.size≤e52.heap.size:=HKe52.1.size;have c0_R:=Ad Re52_R.1;have c0_X:=Ad Re52_X.1;have c0_kb:=HKkbe52.1.lt;have HO3:=zh (HOe52.1.three hbw);rw [Oz (Lv hperm),Oz (Lv (arr:=true) hperm),←HNS.1,←HNA.1] at HO3;obtain ⟨C,hCe⟩:∃x,x=e52.heap.size:=⟨_,rfl⟩;rw [←hCe] at HO3 hwC0 c0_R c0_X c0_kb;have hwC:=hwC0;have c_R:=c0_R;have c_X:=c0_X;have c_kb:=c0_kb;clear hCe hbw hwC0 c0_R c0_X c0_kb HRe52
  go_loopg [64] (K.g.funcs.length+1) (fun g j wf=>Aal K st kf ps w (w.heap.size) (e2.heap.size) kb (it+1) C (Cr sc0) (Cr ar0) (.slice sa (Bm st kf false p).length sc) (.slice aa (Bm st kf true p).length ac) g j wf)
  case atStart=>exact ⟨0,rfl,Nat.zero_le _,rfl,[],ps,_,_,_,HPS0.1,rfl,rfl,HO3.1,HKkbe52.1,HKe52.1,Re52_R.1,Re52_X.1⟩
  rename World=>wf
  obtain ⟨k,rfl,hk1,hk2,acc,rest,pv,T3,U,hrest,hacc,hacl,ho,hkb,hk,hR,hX⟩:=hrel;obtain ⟨pa3,pc3,rfl,-⟩:=ho.fs.slice;have HACL:=zh hacl;have HKBwf:=zh hkb;have HKwf:=zh hk;have HO3wf:=zh ho;have RRwf:=zh hR;have RXwf:=zh hX;clear hkb hk ho hR hX hacl
  by_cases hlt:k<K.g.funcs.length
  ·obtain ⟨g,o,pa,pc,b0,b1,b2,b3,b4,hfa,c0,c1,c2,c3,c4,c5,c6,c7,hsp,hnb⟩:=CK.func hK (HC0.1.kp0 HKwf.1) hlt;obtain ⟨fmb,nab,ncb,hvb,-⟩:=hnb.kids;simp only [Value.agg.injEq,Array.mk.injEq,List.cons.injEq,and_true] at hvb;obtain ⟨rfl,rfl,rfl,rfl,rfl⟩:=hvb;have lg:g<wf.heap.size:=Cd c0;have efa:=hfa0.symm.trans hfa;subst efa;have hpl:K.g.funcs[k].params.length≤400000:=HPL0.1 _ (List.getElem_mem hlt);rw [List.drop_eq_getElem_cons hlt,Lw] at hrest;generalize K.g.funcs[k]=fu at*
   simp only [Option.bind_eq_bind,Option.bind_eq_some_iff,Option.some.injEq] at hrest;obtain ⟨xs,hxs,rest2,hrest0,rfl⟩:=hrest;have HXS:=zh hxs;have HSP:=zh hsp;clear hxs hsp hnb
   cases gk with
   |zero=>omega
   | succ f=>
    have l_c:=Ad (HC0.1.kp0 HKwf.1).row;have l_R:=Ad RRwf.1;have l_X:=Ad RXwf.1;have l_mn:=(HC0.1.kp0 HKwf.1).lt.2.2.2;have l_kb:=HKBwf.1.lt
    go_wp2_with fail
    refine Bj (fun W=>Ac [] wf W∧W.heap[wf.heap.size]? =some (.cells #[.string fu.name,.slice pa fu.params.length pc,.int .i64 fu.body.kind,.string fu.body.name,.float .f64 fmb,.slice nab fu.body.kids.length ncb,.complex .f64 fu.body.re fu.body.im,.complex .f64 fu.re fu.im] 61 (0,0))) ⟨jg,jb⟩ ?_;rintro w51 ⟨Kw51,cw51_F⟩;have ⟨n_c_F,n_F_c⟩:=Ai l_c;have ⟨n_mn_F,n_F_mn⟩:=Ai l_mn;have ⟨n_kb_F,n_F_kb⟩:=Ai l_kb;have ⟨n_R_F,n_F_R⟩:=Ai l_R;have ⟨n_X_F,n_F_X⟩:=Ai l_X;have o_F:w.heap.size≤wf.heap.size:=HKwf.1.size;have Rw51_R:=zh (Kw51.at RRwf.1 qg);have Rw51_X:=zh (Kw51.at RXwf.1 qg);have HKw51:=zh (HKwf.1.trans Kw51 qg);have HKkbw51:=zh (HKBwf.1.keep Kw51 qg);have HO3w51:=zh (HO3wf.1.kp Kw51 qg);have Rw51_F:=zh cw51_F;clear Kw51 cw51_F l_c l_R l_X l_mn l_kb RRwf RXwf HKwf HKBwf HO3wf;have HO3u:=zh HO3w51.1.up;obtain ⟨U2,hU2⟩:∃x,x=w51.heap.size:=⟨_,rfl⟩;have u_R:=Ad Rw51_R.1;have u_X:=Ad Rw51_X.1;have u_kb:=HKkbw51.1.lt;have hwU:=HKw51.1.size;have hcu:=HO3w51.1.cs;rw [←hU2] at HO3u u_R u_X u_kb hwU hcu;clear hU2
    go_loopg [8,72] (fu.params.length+1) (fun g l j wr=>Aak K st kf k fu.params xs w (w.heap.size) (e2.heap.size) kb (it+1) C U2 (Cr sc0) (Cr ar0) (.slice sa (Bm st kf false p).length sc) (.slice aa (Bm st kf true p).length ac) (.slice pa3 acc.length pc3) acc T3 g l j wr)
    case atStart=>exact ⟨0,rfl,Nat.zero_le _,rfl,[],xs,fun _=>False,HXS.1,rfl,rfl,⟨Ax.nil,fun _ h=>h.elim,fun _ h=>h.elim⟩,HO3u.1,HKkbw51.1,HKw51.1,Rw51_R.1,Rw51_X.1⟩
    obtain ⟨i,rfl,hi1,hi2,a4,rest4,T4,hrest,ha4,hal,ho4,ho3,hkb,hk,hR,hX⟩:=hrel;have HAL:=zh hal;have HLA4:Hd (a4.length≤fu.params.length):=zh jh;have HKBwr:=zh hkb;have HKwr:=zh hk;have HO3wr:=zh ho3;have HO4wr:=zh ho4;have RRwr:=zh hR;have RXwr:=zh hX;clear hkb hk ho3 ho4 hR hX hal
    by_cases hlt2:i<fu.params.length
    ·obtain ⟨g2,o2,hpa,hcs⟩:=CK.str (HC0.1.kp0 HKwr.1) HSP.1 hlt2;subst hpa;have lg2:g2<wr.heap.size:=Cd hcs;rw [List.drop_eq_getElem_cons hlt2,Vw] at hrest;generalize fu.params[i]=s at*
     simp only [Option.bind_eq_bind,Option.bind_eq_some_iff,Option.some.injEq] at hrest;obtain ⟨r,hrt,rest5,hrest,rfl⟩:=hrest;have HRT:=zh hrt;have HLL:Hd (a4.length≤400000):=zh (Nat.le_trans HLA4.1 hpl);clear hrt;obtain ⟨kn,hkn⟩:∃x,x=kof r kf:=⟨_,rfl⟩;have HKN:=zh hkn;rw [←hkn] at ha4;clear hkn
     cases gk with
     |zero=>omega
     | succ f2=>
      by_cases h2:kn=2
      ·have d2:((kn:Int)==2)=true:=by simp [h2]
       have d3:(kn==2)=true:=by simp [h2]
       rw [d3] at ha4;have l_c:=Ad (HC0.1.kp0 HKwr.1).row;have l_R:=Ad RRwr.1;have l_X:=Ad RXwr.1;have l_mn:=(HC0.1.kp0 HKwr.1).lt.2.2.2;have l_kb:=HKBwr.1.lt
       go_wp2_with fail
       clear l_c l_R l_X l_mn l_kb;refine (NV (HC0.1.kp0 HKwr.1) (t:=(k+1,s)) HRT.1 qg rfl).mono ?_;rintro r e71 ⟨rfl,hk⟩;have Re71_R:=zh (hk.at RRwr.1 qg);have Re71_X:=zh (hk.at RXwr.1 qg);have HKe71:=zh (HKwr.1.trans hk qg);have HKkbe71:=zh (HKBwr.1.keep hk qg);have HO3e71:=zh (HO3wr.1.kp hk qg);have HO4e71:=zh (HO4wr.1.kp hk qg);clear hk RRwr RXwr HKwr HKBwr HO3wr HO4wr;have l_c:=Ad (HC0.1.kp0 HKe71.1).row;have l_R:=Ad Re71_R.1;have l_X:=Ad Re71_X.1;have l_mn:=(HC0.1.kp0 HKe71.1).lt.2.2.2;have l_kb:=HKkbe71.1.lt;have hlk2:=HKkbe71.1.look r (n:=kn) HKN.1
       go_wp2_with (
        at_builtin
        go_loud (
         refine Hz (fun W=>Ac [] e71 W∧W.heap[e71.heap.size]? =some (.cells #[.bool true] 4 (0,0))) ⟨jg,jb⟩ ?_;rintro w72 ⟨Kw72,cw72_G⟩;have ⟨n_c_G,n_G_c⟩:=Ai l_c;have ⟨n_mn_G,n_G_mn⟩:=Ai l_mn;have ⟨n_kb_G,n_G_kb⟩:=Ai l_kb;have ⟨n_R_G,n_G_R⟩:=Ai l_R;have ⟨n_X_G,n_G_X⟩:=Ai l_X;have o_G:w.heap.size≤e71.heap.size:=HKe71.1.size;have Rw72_R:=zh (Kw72.at Re71_R.1 qg);have Rw72_X:=zh (Kw72.at Re71_X.1 qg);have HKw72:=zh (HKe71.1.trans Kw72 qg);have HKkbw72:=zh (HKkbe71.1.keep Kw72 qg);have HO3w72:=zh (HO3e71.1.kp Kw72 qg);have HO4w72:=zh (HO4e71.1.kp Kw72 qg);have Rw72_G:=zh cw72_G;clear Kw72 cw72_G l_c l_R l_X l_mn l_kb Re71_R Re71_X HKe71 HKkbe71 HO3e71 HO4e71;refine EQ rfl (.tmp 76) (.tmp 86) rfl rfl rfl HO4w72.1.fs Rw72_G.1 HO4w72.1.u4 (HKw72.1.size) HLL.1 ?_))
       intro ve73 e73 fl hfl hk hown;have Re73_R:=zh (hk.at Rw72_R.1 (fun h=>Nat.not_lt_of_le (HO4w72.1.d4 _ (hfl _ h)) u_R));have Re73_X:=zh (hk.at Rw72_X.1 (fun h=>Nat.not_lt_of_le (HO4w72.1.d4 _ (hfl _ h)) u_X));have HKe73:=zh (HKw72.1.trans hk (fun x h=> .inr (Nat.le_trans hwU (HO4w72.1.d4 x (hfl x h)))));have HKkbe73:=zh (HKkbw72.1.keep hk (fun h=>Nat.not_lt_of_le (HO4w72.1.d4 _ (hfl _ h)) u_kb));have HO3e73:=zh (HO3w72.1.far hk (fun x h=>HO4w72.1.d4 x (hfl x h)) hcu);have HO4e73:=zh (HO4w72.1.app HO3w72.1.us hk hown);clear hown hk hfl Rw72_R Rw72_X HKw72 HKkbw72 HO3w72 HO4w72;have l_c:=Ad (HC0.1.kp0 HKe73.1).row;have l_R:=Ad Re73_R.1;have l_X:=Ad Re73_X.1;have l_mn:=(HC0.1.kp0 HKe73.1).lt.2.2.2;have l_kb:=HKkbe73.1.lt
       go_wp2_with fail
       go_roundg f2
       case measure=>omega
       exact ⟨i+1,by first|rfl|(simp;done)|(simp;omega),by omega,by omega,a4++ [true],rest5,_,hrest,by simpa using ha4,by simp [HAL.1],HO4e73.1,HO3e73.1,HKkbe73.1,HKe73.1,Re73_R.1,Re73_X.1⟩
      have d2:((kn:Int)==2)=false:=by simp;omega
      have d3:(kn==2)=false:=by simp [h2]
      rw [d3] at ha4;have l_c:=Ad (HC0.1.kp0 HKwr.1).row;have l_R:=Ad RRwr.1;have l_X:=Ad RXwr.1;have l_mn:=(HC0.1.kp0 HKwr.1).lt.2.2.2;have l_kb:=HKBwr.1.lt
      go_wp2_with fail
      clear l_c l_R l_X l_mn l_kb;refine (NV (HC0.1.kp0 HKwr.1) (t:=(k+1,s)) HRT.1 qg rfl).mono ?_;rintro r e71 ⟨rfl,hk⟩;have Re71_R:=zh (hk.at RRwr.1 qg);have Re71_X:=zh (hk.at RXwr.1 qg);have HKe71:=zh (HKwr.1.trans hk qg);have HKkbe71:=zh (HKBwr.1.keep hk qg);have HO3e71:=zh (HO3wr.1.kp hk qg);have HO4e71:=zh (HO4wr.1.kp hk qg);clear hk RRwr RXwr HKwr HKBwr HO3wr HO4wr;have l_c:=Ad (HC0.1.kp0 HKe71.1).row;have l_R:=Ad Re71_R.1;have l_X:=Ad Re71_X.1;have l_mn:=(HC0.1.kp0 HKe71.1).lt.2.2.2;have l_kb:=HKkbe71.1.lt;have hlk2:=HKkbe71.1.look r (n:=kn) HKN.1
      go_wp2_with (
       at_builtin
       go_loud (
        refine Hz (fun W=>Ac [] e71 W∧W.heap[e71.heap.size]? =some (.cells #[.bool false] 4 (0,0))) ⟨jg,jb⟩ ?_;rintro w72 ⟨Kw72,cw72_G⟩;have ⟨n_c_G,n_G_c⟩:=Ai l_c;have ⟨n_mn_G,n_G_mn⟩:=Ai l_mn;have ⟨n_kb_G,n_G_kb⟩:=Ai l_kb;have ⟨n_R_G,n_G_R⟩:=Ai l_R;have ⟨n_X_G,n_G_X⟩:=Ai l_X;have o_G:w.heap.size≤e71.heap.size:=HKe71.1.size;have Rw72_R:=zh (Kw72.at Re71_R.1 qg);have Rw72_X:=zh (Kw72.at Re71_X.1 qg);have HKw72:=zh (HKe71.1.trans Kw72 qg);have HKkbw72:=zh (HKkbe71.1.keep Kw72 qg);have HO3w72:=zh (HO3e71.1.kp Kw72 qg);have HO4w72:=zh (HO4e71.1.kp Kw72 qg);have Rw72_G:=zh cw72_G;clear Kw72 cw72_G l_c l_R l_X l_mn l_kb Re71_R Re71_X HKe71 HKkbe71 HO3e71 HO4e71;refine EQ rfl (.tmp 76) (.tmp 86) rfl rfl rfl HO4w72.1.fs Rw72_G.1 HO4w72.1.u4 (HKw72.1.size) HLL.1 ?_))
      intro ve73 e73 fl hfl hk hown;have Re73_R:=zh (hk.at Rw72_R.1 (fun h=>Nat.not_lt_of_le (HO4w72.1.d4 _ (hfl _ h)) u_R));have Re73_X:=zh (hk.at Rw72_X.1 (fun h=>Nat.not_lt_of_le (HO4w72.1.d4 _ (hfl _ h)) u_X));have HKe73:=zh (HKw72.1.trans hk (fun x h=> .inr (Nat.le_trans hwU (HO4w72.1.d4 x (hfl x h)))));have HKkbe73:=zh (HKkbw72.1.keep hk (fun h=>Nat.not_lt_of_le (HO4w72.1.d4 _ (hfl _ h)) u_kb));have HO3e73:=zh (HO3w72.1.far hk (fun x h=>HO4w72.1.d4 x (hfl x h)) hcu);have HO4e73:=zh (HO4w72.1.app HO3w72.1.us hk hown);clear hown hk hfl Rw72_R Rw72_X HKw72 HKkbw72 HO3w72 HO4w72;have l_c:=Ad (HC0.1.kp0 HKe73.1).row;have l_R:=Ad Re73_R.1;have l_X:=Ad Re73_X.1;have l_mn:=(HC0.1.kp0 HKe73.1).lt.2.2.2;have l_kb:=HKkbe73.1.lt
      go_wp2_with fail
      go_roundg f2
      case measure=>omega
      exact ⟨i+1,by first|rfl|(simp;done)|(simp;omega),by omega,by omega,a4++ [false],rest5,_,hrest,by simpa using ha4,by simp [HAL.1],HO4e73.1,HO3e73.1,HKkbe73.1,HKe73.1,Re73_R.1,Re73_X.1⟩
    have hie:i=fu.params.length:=by omega
    rw [hie,List.drop_length,Vw] at hrest;obtain rfl: []=rest4:=by simpa using hrest
    rw [List.append_nil] at ha4;subst ha4;obtain ⟨la,lc,rfl,-⟩:=HO4wr.1.fs.slice;clear hrest hie;have l_c:=Ad (HC0.1.kp0 HKwr.1).row;have l_R:=Ad RRwr.1;obtain ⟨l_X,xX⟩:=Lr RXwr.1;have l_mn:=(HC0.1.kp0 HKwr.1).lt.2.2.2;have l_kb:=HKBwr.1.lt
    go_wp2_with (
     at_builtin
     go_loud (
      refine Hz (fun W=>Ac [] wr W∧W.heap[wr.heap.size]? =some (.cells #[.slice la a4.length lc] 36 (0,0))) ⟨jg,jb⟩ ?_;rintro w71 ⟨Kw71,cw71_G⟩;have ⟨n_c_G,n_G_c⟩:=Ai l_c;have ⟨n_mn_G,n_G_mn⟩:=Ai l_mn;have ⟨n_kb_G,n_G_kb⟩:=Ai l_kb;have ⟨n_R_G,n_G_R⟩:=Ai l_R;have ⟨n_X_G,n_G_X⟩:=Ai l_X;have o_G:w.heap.size≤wr.heap.size:=HKwr.1.size;have Rw71_R:=zh (Kw71.at RRwr.1 qg);have Rw71_X:=zh (Kw71.at RXwr.1 qg);have HKw71:=zh (HKwr.1.trans Kw71 qg);have HKkbw71:=zh (HKBwr.1.keep Kw71 qg);have HO3w71:=zh (HO3wr.1.kp Kw71 qg);have HO4w71:=zh (HO4wr.1.kp Kw71 qg);have Rw71_G:=zh cw71_G;clear Kw71 cw71_G l_c l_R l_X xX l_mn l_kb RRwr RXwr HKwr HKBwr HO3wr HO4wr;refine MN rfl (.tmp 90) (.tmp 92) rfl rfl rfl HO3w71.1.fs Rw71_G.1 rfl (x:=a4) (S:=T4) ((Eg Xm HO4w71.1.fs)) (fun g h4 h3=>Nat.not_lt_of_le (HO4w71.1.d4 g h4) (HO3w71.1.u3 g h3)) HO4w71.1.u4 (fun g h3=>Nat.lt_of_lt_of_le (HO3w71.1.u3 g h3) HO3w71.1.us) (HKw71.1.size) (by rw [HACL.1];omega) ?_))
    intro ve72 e72 fl hfl hk hown;have Re72_R:=zh (hk.at Rw71_R.1 (fun h=>Nat.not_lt_of_le (HO3w71.1.d3 _ (hfl _ h)) c_R));have Re72_X:=zh (hk.at Rw71_X.1 (fun h=>Nat.not_lt_of_le (HO3w71.1.d3 _ (hfl _ h)) c_X));have HKe72:=zh (HKw71.1.trans hk (fun x h=> .inr (Nat.le_trans hwC (HO3w71.1.d3 x (hfl x h)))));have HKkbe72:=zh (HKkbw71.1.keep hk (fun h=>Nat.not_lt_of_le (HO3w71.1.d3 _ (hfl _ h)) c_kb));have HO3e72:=zh (HO3w71.1.app hcu hk hfl HO4w71.1.d4 HO4w71.1.u4 hown);obtain ⟨ka2,kc2,hva,-⟩:=hown.slice;obtain ⟨ln,hln⟩:∃q,q=(acc++ [a4]).length:=⟨_,rfl⟩;rw [←hln] at hva;subst hva;have HLN:=zh hln;clear hown hln hk hfl Rw71_R Rw71_X HKw71 HKkbw71 HO3w71 HO4w71;have l_c:=Ad (HC0.1.kp0 HKe72.1).row;have l_R:=Ad Re72_R.1;obtain ⟨l_X,xX⟩:=Lr Re72_X.1;have l_mn:=(HC0.1.kp0 HKe72.1).lt.2.2.2;have l_kb:=HKkbe72.1.lt
    go_wp2_with fail
    go_roundg f
    case measure=>omega
    refine Ch (fun W=>Ac [e2.heap.size] e72 W∧W.heap[e2.heap.size]? =some (.cells #[.slice sa (Bm st kf false p).length sc,.slice aa (Bm st kf true p).length ac,.slice ka2 ln kc2] 25 (0,0))) ⟨jg,(zc Re72_X.1 l_X)⟩ ?_;rintro w73 ⟨Kw73,cw73_X⟩;have Rw73_R:=zh (Kw73.at Re72_R.1 (by simp [n_R_X]));have HKw73:=zh (HKe72.1.trans Kw73 (by simp [o_X]));have HKkbw73:=zh (HKkbe72.1.keep Kw73 (by simp [n_kb_X]));have HO3w73:=zh (HO3e72.1.kp Kw73 (by simp [b_X]));have Rw73_X:=zh cw73_X;clear Kw73 cw73_X l_c l_R l_X xX l_mn l_kb Re72_R HKe72 HKkbe72 HO3e72 Re72_X;have hln:=HLN.1;subst hln;exact ⟨k+1,by first|rfl|(simp;done)|(simp;omega),by omega,by omega,acc++ [a4],rest2,_,_,_,hrest0,by simpa using hacc,by simp [HACL.1],HO3w73.1,HKkbw73.1,HKw73.1,Rw73_R.1,Rw73_X.1⟩
  have hke:k=K.g.funcs.length:=by omega
  rw [hke,List.drop_length,Lw] at hrest;obtain rfl: []=rest:=by simpa using hrest
  rw [List.append_nil] at hacc;subst hacc;have HDN:Hd (∀x,(it+1≤x∧x<C)→w.heap.size≤x):=zh fun x hx=>Nat.le_trans hwb hx.1
  have HDM:Hd (∀x,T3 x→w.heap.size≤x):=zh fun x hx=>Nat.le_trans hwb (Nat.le_trans HO3wf.1.bc (HO3wf.1.d3 x hx))
  clear hrest hke;have l_c:=Ad (HC0.1.kp0 HKwf.1).row;obtain ⟨l_R,xR⟩:=Lr RRwf.1;obtain ⟨l_X,xX⟩:=Lr RXwf.1;have l_mn:=(HC0.1.kp0 HKwf.1).lt.2.2.2;have l_kb:=HKBwf.1.lt
  go_wp2_with fail
  refine Ap (v:= .agg #[.slice sa (Bm st kf false p).length sc,.slice aa (Bm st kf true p).length ac,.slice pa3 acc.length pc3]) (fun W=>Ac [w.heap.size] wf W∧W.heap[w.heap.size]? =some (.cells #[.slice sa (Bm st kf false p).length sc,.slice aa (Bm st kf true p).length ac,.slice pa3 acc.length pc3] 25 (0,0))) ⟨jg,(zc RRwf.1 l_R)⟩ (fun w51 hW=> ?_) rfl (fun w51 hW=> ?_)
  ·obtain ⟨Kw51,cw51_R⟩:=hW;have q0:=Aa cw51_R 0;have q1:=Aa cw51_R 1;have q2:=Aa cw51_R 2;simp at q0 q1 q2;exact qxc
  obtain ⟨Kw51,cw51_R⟩:=hW;have Rw51_X:=zh (Kw51.at RXwf.1 (by simp [n_X_R]));have HKw51:=zh (HKwf.1.trans Kw51 zp);have HKkbw51:=zh (HKBwf.1.keep Kw51 (by simp [n_kb_R]));have HO3w51:=zh (HO3wf.1.kp Kw51 (by simp [b_R]));have Rw51_R:=zh cw51_R;clear Kw51 cw51_R l_c l_R xR l_X xX l_mn l_kb RXwf HKwf HKBwf HO3wf RRwf;exact ⟨_,rfl,⟨sa,sc,aa,ac,pa3,pc3,by rw [HLES.1,HLEA.1],by rw [←HLES.1];exact HO3w51.1.sc.to Bu HDN.1,by rw [←HLEA.1];exact HO3w51.1.ar.to Bu HDN.1,(Eg Bx HO3w51.1.fs).to Bx HDM.1⟩,HKw51.1⟩
 have hent:=hrn.entry;have HKBwn:=zh (HKBwo.1.keep hkn (by simp [n_kb_it]));have HKwn:=zh (HKwo.1.trans hkn qi);have HRwn:=zh hrn;have HOwn:=zh (HOwo.1.kp hkn qg);have RRwn:=zh (hkn.at RRwo.1 (by simp [n_R_it]));have RXwn:=zh (hkn.at RXwo.1 (by simp [n_X_it]));have HRO1:=HRO.1 t ht;clear hrs hrn hkn hszn HKBwo HKwo HOwo RRwo RXwo hplen
 cases gk with
 |zero=>omega
 | succ m=>
  by_cases h0:t.1=0
  ·have d0:decide (0<t.1)=false:=by simp [h0]
   have d1:¬(0:Int)<(t.1:Int):=by omega
   cases hsp:Am t.2 with
   |true=>
    have hgf:Kq t=false:=by unfold Kq;rw [hsp];simp
    have HPS:Hd (Bm st kf false (p++ [t])=Bm st kf false p):=zh (Lf (.inl hgf) p);have HPA:Hd (Bm st kf true (p++ [t])=Bm st kf true p):=zh (Lf (.inl hgf) p);clear HRO1 h0 hgf;have l_c:=Ad (HC0.1.kp0 HKwn.1).row;have l_R:=Ad RRwn.1;have l_X:=Ad RXwn.1;have l_mn:=(HC0.1.kp0 HKwn.1).lt.2.2.2;have l_kb:=HKBwn.1.lt;have l_it:=HRwn.1.lt.1
    go_wp2_with fail
    refine ZX ?_;rintro w51 ⟨Kw51,cw51_Q⟩;have ⟨n_c_Q,n_Q_c⟩:=Ai l_c;have ⟨n_mn_Q,n_Q_mn⟩:=Ai l_mn;have ⟨n_kb_Q,n_Q_kb⟩:=Ai l_kb;have ⟨n_R_Q,n_Q_R⟩:=Ai l_R;have ⟨n_X_Q,n_Q_X⟩:=Ai l_X;have ⟨n_it_Q,n_Q_it⟩:=Ai l_it;have o_Q:w.heap.size≤wn.heap.size:=HKwn.1.size;have Rw51_R:=zh (Kw51.at RRwn.1 qg);have Rw51_X:=zh (Kw51.at RXwn.1 qg);have HKw51:=zh (HKwn.1.trans Kw51 qg);have HKkbw51:=zh (HKBwn.1.keep Kw51 qg);have HOw51:=zh (HOwn.1.kp Kw51 qg);have HRw51:=zh (HRwn.1.keep Kw51 qg qg);have Rw51_Q:=zh cw51_Q;clear Kw51 cw51_Q l_c l_R l_X l_mn l_kb l_it RRwn RXwn HKwn HKBwn HOwn HRwn;refine (Dk t.2 _).mono ?_;rintro r w' ⟨rfl,hw'⟩;rw [hw'];clear hw';have l_c:=Ad (HC0.1.kp0 HKw51.1).row;have l_R:=Ad Rw51_R.1;have l_X:=Ad Rw51_X.1;have l_Q:=Ad Rw51_Q.1;have l_mn:=(HC0.1.kp0 HKw51.1).lt.2.2.2;have l_kb:=HKkbw51.1.lt;have l_it:=HRw51.1.lt.1
    go_wp2_with fail
    go_roundg m
    case measure=>omega
    exact zyc
   | false=>
    have hgt:Kq t=true:=by unfold Kq;rw [hsp,h0];simp
    obtain ⟨r,hrr⟩:∃r,r=Pa st t:=⟨_,rfl⟩;have HRT:Hd (Dl st t=some r):=zh (by rw [hrr];exact HRO1 hgt);obtain ⟨kn,hkn⟩:∃x,x=kof r kf:=⟨_,rfl⟩;have HKN:=zh hkn
    by_cases h2:kn=2
    ·have hak:BL st kf t=true:=by unfold BL;rw [←hrr,←hkn,h2];rfl
     have HPS:Hd (Bm st kf false (p++ [t])=Bm st kf false p):=zh (Lf (.inr hak) p);have HPA:Hd (Bm st kf true (p++ [t])=Bm st kf true p++ [t.2]):=zh (Yv hgt hak p);have HLL:=HLA;have d2:((kn:Int)==2)=true:=by simp [h2]
     have d3:(kn==2)=true:=by simp [h2]
     clear HRO1 h0 hgt hrr hkn hak h2;have l_c:=Ad (HC0.1.kp0 HKwn.1).row;have l_R:=Ad RRwn.1;have l_X:=Ad RXwn.1;have l_mn:=(HC0.1.kp0 HKwn.1).lt.2.2.2;have l_kb:=HKBwn.1.lt;have l_it:=HRwn.1.lt.1
     go_wp2_with fail
     refine ZX ?_;rintro w51 ⟨Kw51,cw51_Q⟩;have ⟨n_c_Q,n_Q_c⟩:=Ai l_c;have ⟨n_mn_Q,n_Q_mn⟩:=Ai l_mn;have ⟨n_kb_Q,n_Q_kb⟩:=Ai l_kb;have ⟨n_R_Q,n_Q_R⟩:=Ai l_R;have ⟨n_X_Q,n_Q_X⟩:=Ai l_X;have ⟨n_it_Q,n_Q_it⟩:=Ai l_it;have o_Q:w.heap.size≤wn.heap.size:=HKwn.1.size;have Rw51_R:=zh (Kw51.at RRwn.1 qg);have Rw51_X:=zh (Kw51.at RXwn.1 qg);have HKw51:=zh (HKwn.1.trans Kw51 qg);have HKkbw51:=zh (HKBwn.1.keep Kw51 qg);have HOw51:=zh (HOwn.1.kp Kw51 qg);have HRw51:=zh (HRwn.1.keep Kw51 qg qg);have Rw51_Q:=zh cw51_Q;clear Kw51 cw51_Q l_c l_R l_X l_mn l_kb l_it RRwn RXwn HKwn HKBwn HOwn HRwn;refine (Dk t.2 _).mono ?_;rintro r w' ⟨rfl,hw'⟩;rw [hw'];clear hw';have l_c:=Ad (HC0.1.kp0 HKw51.1).row;have l_R:=Ad Rw51_R.1;have l_X:=Ad Rw51_X.1;obtain ⟨l_Q,xQ⟩:=Ki Rw51_Q.1;have l_mn:=(HC0.1.kp0 HKw51.1).lt.2.2.2;have l_kb:=HKkbw51.1.lt;have l_it:=HRw51.1.lt.1
     go_wp2_with fail
     clear l_c l_R l_X l_Q xQ l_mn l_kb l_it;refine (El (HC0.1.kp0 HKw51.1) HRT.1).mono ?_;rintro r e52 ⟨rfl,hk⟩;have Re52_R:=zh (hk.at Rw51_R.1 qg);have Re52_X:=zh (hk.at Rw51_X.1 qg);have Re52_Q:=zh (hk.at Rw51_Q.1 qg);have HKe52:=zh (HKw51.1.trans hk qg);have HKkbe52:=zh (HKkbw51.1.keep hk qg);have HOe52:=zh (HOw51.1.kp hk qg);have HRe52:=zh (HRw51.1.keep hk qg qg);clear hk Rw51_R Rw51_X Rw51_Q HKw51 HKkbw51 HOw51 HRw51;have l_c:=Ad (HC0.1.kp0 HKe52.1).row;have l_R:=Ad Re52_R.1;obtain ⟨l_X,xX⟩:=Lr Re52_X.1;obtain ⟨l_Q,xQ⟩:=Ki Re52_Q.1;have l_mn:=(HC0.1.kp0 HKe52.1).lt.2.2.2;have l_kb:=HKkbe52.1.lt;have l_it:=HRe52.1.lt.1;have hlk2:=HKkbe52.1.look r (n:=kn) HKN.1
     go_wp2_with (
      at_builtin
      go_loud (
       refine jyc ?_;rintro w53 ⟨Kw53,cw53_G⟩;have ⟨n_c_G,n_G_c⟩:=Ai l_c;have ⟨n_mn_G,n_G_mn⟩:=Ai l_mn;have ⟨n_kb_G,n_G_kb⟩:=Ai l_kb;have ⟨n_R_G,n_G_R⟩:=Ai l_R;have ⟨n_X_G,n_G_X⟩:=Ai l_X;have ⟨n_it_G,n_G_it⟩:=Ai l_it;have ⟨n_Q_G,n_G_Q⟩:=Ai l_Q;have o_G:w.heap.size≤e52.heap.size:=HKe52.1.size;have Rw53_R:=zh (Kw53.at Re52_R.1 qg);have Rw53_X:=zh (Kw53.at Re52_X.1 qg);have Rw53_Q:=zh (Kw53.at Re52_Q.1 qg);have HKw53:=zh (HKe52.1.trans Kw53 qg);have HKkbw53:=zh (HKkbe52.1.keep Kw53 qg);have HOw53:=zh (HOe52.1.kp Kw53 qg);have HRw53:=zh (HRe52.1.keep Kw53 qg qg);have Rw53_G:=zh cw53_G;clear Kw53 cw53_G l_c l_R l_X xX l_Q xQ l_mn l_kb l_it Re52_R Re52_X Re52_Q HKe52 HKkbe52 HOe52 HRe52;refine JP rfl (.tmp 46) (.tmp 49) rfl rfl rfl HOw53.1.ar Rw53_G.1 HOw53.1.u2 (HKw53.1.size) HLL.1 ?_))
     intro ve54 e54 fl hfl hk hown;have Re54_R:=zh (hk.at Rw53_R.1 (fun h=>Nat.not_lt_of_le (HOw53.1.d2 _ (hfl _ h)) b_R));have Re54_X:=zh (hk.at Rw53_X.1 (fun h=>Nat.not_lt_of_le (HOw53.1.d2 _ (hfl _ h)) b_X));have HKe54:=zh (HKw53.1.trans hk (fun x h=> .inr (Nat.le_trans hwb (HOw53.1.d2 x (hfl x h)))));have HKkbe54:=zh (HKkbw53.1.keep hk (fun h=>Nat.not_lt_of_le (HOw53.1.d2 _ (hfl _ h)) b_kb));have HRe54:=zh (HRw53.1.keep hk (fun h=>Nat.not_lt_of_le (HOw53.1.d2 _ (hfl _ h)) b_mn) (fun h=>Nat.not_lt_of_le (HOw53.1.d2 _ (hfl _ h)) b_it));have hbl:it+1≤w53.heap.size:=HRw53.1.lt.1;have HOe54:=zh (HOw53.1.app2 (hbl:it+1≤w53.heap.size) hk hfl hown);obtain ⟨ka2,kc2,hva,-⟩:=hown.slice;obtain ⟨ln,hln⟩:∃k,k=(Bm st kf true p++ [t.2]).length:=⟨_,rfl⟩;rw [←hln] at hva;subst hva;have HLN:=zh hln;clear hown hln hk hfl Rw53_R Rw53_X HKw53 HKkbw53 HRw53 HOw53;have l_c:=Ad (HC0.1.kp0 HKe54.1).row;have l_R:=Ad Re54_R.1;obtain ⟨l_X,xX⟩:=Lr Re54_X.1;have l_mn:=(HC0.1.kp0 HKe54.1).lt.2.2.2;have l_kb:=HKkbe54.1.lt;have l_it:=HRe54.1.lt.1
     go_wp2_with fail
     go_roundg m
     case measure=>omega
     refine Ch (fun W=>Ac [e2.heap.size] e54 W∧W.heap[e2.heap.size]? =some (.cells #[.slice sa (Bm st kf false p).length sc,.slice ka2 ln kc2,.slice none 0 0] 25 (0,0))) ⟨jg,(zc Re54_X.1 l_X)⟩ ?_;exact jde
    have hak:BL st kf t=false:=by unfold BL;rw [←hrr,←hkn];simp [h2]
    have HPS:Hd (Bm st kf false (p++ [t])=Bm st kf false p++ [t.2]):=zh (Yv hgt hak p);have HPA:Hd (Bm st kf true (p++ [t])=Bm st kf true p):=zh (Lf (.inr hak) p);have HLL:=HLS;have d2:((kn:Int)==2)=false:=by simp;omega
    have d3:(kn==2)=false:=by simp [h2]
    clear HRO1 h0 hgt hrr hkn hak h2;have l_c:=Ad (HC0.1.kp0 HKwn.1).row;have l_R:=Ad RRwn.1;have l_X:=Ad RXwn.1;have l_mn:=(HC0.1.kp0 HKwn.1).lt.2.2.2;have l_kb:=HKBwn.1.lt;have l_it:=HRwn.1.lt.1
    go_wp2_with fail
    refine ZX ?_;rintro w51 ⟨Kw51,cw51_Q⟩;have ⟨n_c_Q,n_Q_c⟩:=Ai l_c;have ⟨n_mn_Q,n_Q_mn⟩:=Ai l_mn;have ⟨n_kb_Q,n_Q_kb⟩:=Ai l_kb;have ⟨n_R_Q,n_Q_R⟩:=Ai l_R;have ⟨n_X_Q,n_Q_X⟩:=Ai l_X;have ⟨n_it_Q,n_Q_it⟩:=Ai l_it;have o_Q:w.heap.size≤wn.heap.size:=HKwn.1.size;have Rw51_R:=zh (Kw51.at RRwn.1 qg);have Rw51_X:=zh (Kw51.at RXwn.1 qg);have HKw51:=zh (HKwn.1.trans Kw51 qg);have HKkbw51:=zh (HKBwn.1.keep Kw51 qg);have HOw51:=zh (HOwn.1.kp Kw51 qg);have HRw51:=zh (HRwn.1.keep Kw51 qg qg);have Rw51_Q:=zh cw51_Q;clear Kw51 cw51_Q l_c l_R l_X l_mn l_kb l_it RRwn RXwn HKwn HKBwn HOwn HRwn;refine (Dk t.2 _).mono ?_;rintro r w' ⟨rfl,hw'⟩;rw [hw'];clear hw';have l_c:=Ad (HC0.1.kp0 HKw51.1).row;have l_R:=Ad Rw51_R.1;have l_X:=Ad Rw51_X.1;obtain ⟨l_Q,xQ⟩:=Ki Rw51_Q.1;have l_mn:=(HC0.1.kp0 HKw51.1).lt.2.2.2;have l_kb:=HKkbw51.1.lt;have l_it:=HRw51.1.lt.1
    go_wp2_with fail
    clear l_c l_R l_X l_Q xQ l_mn l_kb l_it;refine (El (HC0.1.kp0 HKw51.1) HRT.1).mono ?_;rintro r e52 ⟨rfl,hk⟩;have Re52_R:=zh (hk.at Rw51_R.1 qg);have Re52_X:=zh (hk.at Rw51_X.1 qg);have Re52_Q:=zh (hk.at Rw51_Q.1 qg);have HKe52:=zh (HKw51.1.trans hk qg);have HKkbe52:=zh (HKkbw51.1.keep hk qg);have HOe52:=zh (HOw51.1.kp hk qg);have HRe52:=zh (HRw51.1.keep hk qg qg);clear hk Rw51_R Rw51_X Rw51_Q HKw51 HKkbw51 HOw51 HRw51;have l_c:=Ad (HC0.1.kp0 HKe52.1).row;have l_R:=Ad Re52_R.1;obtain ⟨l_X,xX⟩:=Lr Re52_X.1;obtain ⟨l_Q,xQ⟩:=Ki Re52_Q.1;have l_mn:=(HC0.1.kp0 HKe52.1).lt.2.2.2;have l_kb:=HKkbe52.1.lt;have l_it:=HRe52.1.lt.1;have hlk2:=HKkbe52.1.look r (n:=kn) HKN.1
    go_wp2_with (
     at_builtin
     go_loud (
      refine jyc ?_;rintro w53 ⟨Kw53,cw53_G⟩;have ⟨n_c_G,n_G_c⟩:=Ai l_c;have ⟨n_mn_G,n_G_mn⟩:=Ai l_mn;have ⟨n_kb_G,n_G_kb⟩:=Ai l_kb;have ⟨n_R_G,n_G_R⟩:=Ai l_R;have ⟨n_X_G,n_G_X⟩:=Ai l_X;have ⟨n_it_G,n_G_it⟩:=Ai l_it;have ⟨n_Q_G,n_G_Q⟩:=Ai l_Q;have o_G:w.heap.size≤e52.heap.size:=HKe52.1.size;have Rw53_R:=zh (Kw53.at Re52_R.1 qg);have Rw53_X:=zh (Kw53.at Re52_X.1 qg);have Rw53_Q:=zh (Kw53.at Re52_Q.1 qg);have HKw53:=zh (HKe52.1.trans Kw53 qg);have HKkbw53:=zh (HKkbe52.1.keep Kw53 qg);have HOw53:=zh (HOe52.1.kp Kw53 qg);have HRw53:=zh (HRe52.1.keep Kw53 qg qg);have Rw53_G:=zh cw53_G;clear Kw53 cw53_G l_c l_R l_X xX l_Q xQ l_mn l_kb l_it Re52_R Re52_X Re52_Q HKe52 HKkbe52 HOe52 HRe52;refine JP rfl (.tmp 23) (.tmp 26) rfl rfl rfl HOw53.1.sc Rw53_G.1 HOw53.1.u1 (HKw53.1.size) HLL.1 ?_))
    intro ve54 e54 fl hfl hk hown;have Re54_R:=zh (hk.at Rw53_R.1 (fun h=>Nat.not_lt_of_le (HOw53.1.d1 _ (hfl _ h)) b_R));have Re54_X:=zh (hk.at Rw53_X.1 (fun h=>Nat.not_lt_of_le (HOw53.1.d1 _ (hfl _ h)) b_X));have HKe54:=zh (HKw53.1.trans hk (fun x h=> .inr (Nat.le_trans hwb (HOw53.1.d1 x (hfl x h)))));have HKkbe54:=zh (HKkbw53.1.keep hk (fun h=>Nat.not_lt_of_le (HOw53.1.d1 _ (hfl _ h)) b_kb));have HRe54:=zh (HRw53.1.keep hk (fun h=>Nat.not_lt_of_le (HOw53.1.d1 _ (hfl _ h)) b_mn) (fun h=>Nat.not_lt_of_le (HOw53.1.d1 _ (hfl _ h)) b_it));have hbl:it+1≤w53.heap.size:=HRw53.1.lt.1;have HOe54:=zh (HOw53.1.app1 (hbl:it+1≤w53.heap.size) hk hfl hown);obtain ⟨ka2,kc2,hva,-⟩:=hown.slice;obtain ⟨ln,hln⟩:∃k,k=(Bm st kf false p++ [t.2]).length:=⟨_,rfl⟩;rw [←hln] at hva;subst hva;have HLN:=zh hln;clear hown hln hk hfl Rw53_R Rw53_X HKw53 HKkbw53 HRw53 HOw53;have l_c:=Ad (HC0.1.kp0 HKe54.1).row;have l_R:=Ad Re54_R.1;obtain ⟨l_X,xX⟩:=Lr Re54_X.1;have l_mn:=(HC0.1.kp0 HKe54.1).lt.2.2.2;have l_kb:=HKkbe54.1.lt;have l_it:=HRe54.1.lt.1
    go_wp2_with fail
    go_roundg m
    case measure=>omega
    refine Ch (fun W=>Ac [e2.heap.size] e54 W∧W.heap[e2.heap.size]? =some (.cells #[.slice ka2 ln kc2,.slice aa (Bm st kf true p).length ac,.slice none 0 0] 25 (0,0))) ⟨jg,(zc Re54_X.1 l_X)⟩ ?_;exact jde
  have d0:decide (0<t.1)=true:=by simp;omega
  have d1:(0:Int)<(t.1:Int):=by omega
  have hgf:Kq t=false:=by unfold Kq;simp;omega
  have HPS:Hd (Bm st kf false (p++ [t])=Bm st kf false p):=zh (Lf (.inl hgf) p);have HPA:Hd (Bm st kf true (p++ [t])=Bm st kf true p):=zh (Lf (.inl hgf) p);clear HRO1 h0 hgf;have l_c:=Ad (HC0.1.kp0 HKwn.1).row;have l_R:=Ad RRwn.1;have l_X:=Ad RXwn.1;have l_mn:=(HC0.1.kp0 HKwn.1).lt.2.2.2;have l_kb:=HKBwn.1.lt;have l_it:=HRwn.1.lt.1
  go_wp2_with fail
  go_roundg m
  case measure=>omega
  refine zuc ?_;rintro w51 ⟨Kw51,cw51_Q⟩;have ⟨n_c_Q,n_Q_c⟩:=Ai l_c;have ⟨n_mn_Q,n_Q_mn⟩:=Ai l_mn;have ⟨n_kb_Q,n_Q_kb⟩:=Ai l_kb;have ⟨n_R_Q,n_Q_R⟩:=Ai l_R;have ⟨n_X_Q,n_Q_X⟩:=Ai l_X;have ⟨n_it_Q,n_Q_it⟩:=Ai l_it;have o_Q:w.heap.size≤wn.heap.size:=HKwn.1.size;have Rw51_R:=zh (Kw51.at RRwn.1 qg);have Rw51_X:=zh (Kw51.at RXwn.1 qg);have HKw51:=zh (HKwn.1.trans Kw51 qg);have HKkbw51:=zh (HKBwn.1.keep Kw51 qg);have HOw51:=zh (HOwn.1.kp Kw51 qg);have HRw51:=zh (HRwn.1.keep Kw51 qg qg);have Rw51_Q:=zh cw51_Q;clear Kw51 cw51_Q l_c l_R l_X l_mn l_kb l_it RRwn RXwn HKwn HKBwn HOwn HRwn;exact zyc
end Go.Proofs.YtkfillfkbhbbjaaGreatDoor
