/- info, walked. Made by a program (info.py, walk.py). -/
import Derived.Test.YteafcepaolofpaaGreatDoorKin
import Derived.Test.YteafcepaolofpaaGreatDoorHedL
import Derived.Test.YteafcepaolofpaaGreatDoorCwC
set_option maxRecDepth 100000
set_option maxHeartbeats 4000000
set_option linter.unusedSimpArgs false
set_option linter.unusedVariables false
set_option linter.unusedSectionVars false
namespace Go.Proofs.YteafcepaolofpaaGreatDoor
open Go.RowKit

theorem RangeS.plen{w:World}{r b:Nat}{l p:List Thing}{n:Nat}(h:RangeS w r b l p n):p.length+n=l.length:=by
  obtain ⟨es,ps,qs,k,h1,h2,h3,h4,rfl,rfl⟩:=h
  have:=h4.length_eq
  rw [List.length_append] at this
  rw [List.length_map,this,←h2.keys,List.length_map]
theorem root_z{K:CKey}{T:Nat→Prop}{ua:Option Addr}{uc:Nat}{st:NS}{w:World}(h:CK K T ua uc st w){t r:Thing}{fu:Nat}(hx:rootF st.same fu t=some r){z:Int}(hz:z=t.1){s:ByteArray}(hs:s=t.2):
    Calls Tryz.prog 68 #[.pointer (some ⟨K.c,0,none⟩),.agg #[.int .i64 z,.string s]] w fun q w'=>q= .returned (.agg #[.int .i64 r.1,.string r.2])∧Keeps [] w w':=by
  subst hz;subst hs;exact root_any h hx
/-- The two rows of names. -/
structure Own2 (b B:Nat) (sc ar:List ByteArray) (sv av:Value) (T1 T2:Nat→Prop) (W:World):Prop where
  sc:OwnL StrE 9 1 W b T1 sc sv
  ar:OwnL StrE 9 1 W b T2 ar av
  u1:∀x,T1 x→x<W.heap.size
  u2:∀x,T2 x→x<W.heap.size
  d1:∀x,T1 x→B≤x
  d2:∀x,T2 x→B≤x
  dj:∀x,T1 x→¬T2 x
section
variable {b B:Nat} {sc ar:List ByteArray} {sv av v:Value} {T1 T2:Nat→Prop} {W W':World} {fp fl:List Nat}
theorem Own2.kp(h:Own2 b B sc ar sv av T1 T2 W)(hk:Keeps fp W W')(hf:∀x∈fp,x<B):Own2 b B sc ar sv av T1 T2 W':=
  ⟨h.sc.kp strL hk fun x hx ht=>Nat.not_lt_of_le (h.d1 x ht) (hf x hx),h.ar.kp strL hk fun x hx ht=>Nat.not_lt_of_le (h.d2 x ht) (hf x hx),fun x hx=>Nat.lt_of_lt_of_le (h.u1 x hx) hk.size,fun x hx=>Nat.lt_of_lt_of_le (h.u2 x hx) hk.size,h.d1,h.d2,h.dj⟩
theorem Own2.app1(h:Own2 b B sc ar sv av T1 T2 W)(hb:B≤W.heap.size)(hk:Keeps fl W W')(hfl:∀x∈fl,T1 x){l:List ByteArray}(ho:OwnL StrE 9 1 W' b (fun g=>T1 g∨(W.heap.size≤g∧g<W'.heap.size)) l v):Own2 b B l ar v av (fun g=>T1 g∨(W.heap.size≤g∧g<W'.heap.size)) T2 W':=
  ⟨ho,h.ar.kp strL hk fun x hx=>h.dj x (hfl x hx),fun x hx=>hx.elim (fun hx=>Nat.lt_of_lt_of_le (h.u1 x hx) hk.size) fun hx=>hx.2,fun x hx=>Nat.lt_of_lt_of_le (h.u2 x hx) hk.size,fun x hx=>hx.elim (h.d1 x) fun hx=>Nat.le_trans hb hx.1,h.d2,fun x hx h2=>hx.elim (fun hx=>h.dj x hx h2) fun hx=>Nat.not_lt_of_le hx.1 (h.u2 x h2)⟩
theorem Own2.app2(h:Own2 b B sc ar sv av T1 T2 W)(hb:B≤W.heap.size)(hk:Keeps fl W W')(hfl:∀x∈fl,T2 x){l:List ByteArray}(ho:OwnL StrE 9 1 W' b (fun g=>T2 g∨(W.heap.size≤g∧g<W'.heap.size)) l v):Own2 b B sc l sv v T1 (fun g=>T2 g∨(W.heap.size≤g∧g<W'.heap.size)) W':=
  ⟨h.sc.kp strL hk fun x hx ht=>h.dj x ht (hfl x hx),ho,fun x hx=>Nat.lt_of_lt_of_le (h.u1 x hx) hk.size,fun x hx=>hx.elim (fun hx=>Nat.lt_of_lt_of_le (h.u2 x hx) hk.size) fun hx=>hx.2,h.d1,fun x hx=>hx.elim (h.d2 x) fun hx=>Nat.le_trans hb hx.1,fun x hx h2=>h2.elim (fun h2=>h.dj x hx h2) fun h2=>Nat.not_lt_of_le h2.1 (h.u1 x hx)⟩
theorem Own2.to1(h:Own2 b B sc ar sv av T1 T2 W)(hk:Keeps fl W W')(hfl:∀x∈fl,T1 x){l:List ByteArray}(ho:OwnL StrE 9 1 W' b T1 l sv):Own2 b B l ar sv av T1 T2 W':=
  ⟨ho,h.ar.kp strL hk fun x hx=>h.dj x (hfl x hx),fun x hx=>Nat.lt_of_lt_of_le (h.u1 x hx) hk.size,fun x hx=>Nat.lt_of_lt_of_le (h.u2 x hx) hk.size,h.d1,h.d2,h.dj⟩
theorem Own2.to2(h:Own2 b B sc ar sv av T1 T2 W)(hk:Keeps fl W W')(hfl:∀x∈fl,T2 x){l:List ByteArray}(ho:OwnL StrE 9 1 W' b T2 l av):Own2 b B sc l sv av T1 T2 W':=
  ⟨h.sc.kp strL hk fun x hx ht=>h.dj x ht (hfl x hx),ho,fun x hx=>Nat.lt_of_lt_of_le (h.u1 x hx) hk.size,fun x hx=>Nat.lt_of_lt_of_le (h.u2 x hx) hk.size,h.d1,h.d2,h.dj⟩
end
/-- The names, and the rows of flags so far (blocks T3, from C on, below U). -/
structure Own3 (b B C U:Nat) (sc ar:List ByteArray) (sv av pv:Value) (acc:List (List Bool)) (T3:Nat→Prop) (W:World):Prop where
  sc:SliceR StrE W (fun g=>B≤g∧g<C) sc sv
  ar:SliceR StrE W (fun g=>B≤g∧g<C) ar av
  fs:OwnL FlagsE 44 1 W b T3 acc pv
  u3:∀x,T3 x→x<U
  us:U≤W.heap.size
  d3:∀x,T3 x→C≤x
  bc:B≤C
  cs:C≤W.heap.size
section
variable {b B C U:Nat} {sc ar:List ByteArray} {sv av pv v:Value} {acc:List (List Bool)} {T3 T4:Nat→Prop} {W W':World} {fp fl:List Nat}
theorem Own2.three{T1 T2:Nat→Prop}(h:Own2 b B sc ar sv av T1 T2 W)(hb:B≤W.heap.size):Own3 b B W.heap.size W.heap.size sc ar sv av (.slice none 0 0) [] (fun _=>False) W:=
  ⟨(sliceR_of_own strL h.sc).to strL fun x hx=>⟨h.d1 x hx,h.u1 x hx⟩,(sliceR_of_own strL h.ar).to strL fun x hx=>⟨h.d2 x hx,h.u2 x hx⟩,OwnL.nil,fun _ h=>h.elim,Nat.le_refl _,fun _ h=>h.elim,hb,Nat.le_refl _⟩
theorem Own3.kp(h:Own3 b B C U sc ar sv av pv acc T3 W)(hk:Keeps fp W W')(hf:∀x∈fp,x<B):Own3 b B C U sc ar sv av pv acc T3 W':=
  ⟨h.sc.kp strL hk fun x hx ht=>Nat.not_lt_of_le ht.1 (hf x hx),h.ar.kp strL hk fun x hx ht=>Nat.not_lt_of_le ht.1 (hf x hx),h.fs.kp flagsL hk fun x hx ht=>Nat.not_lt_of_le (Nat.le_trans h.bc (h.d3 x ht)) (hf x hx),h.u3,Nat.le_trans h.us hk.size,h.d3,h.bc,Nat.le_trans h.cs hk.size⟩
/-- A step in blocks from U on. -/
theorem Own3.far(h:Own3 b B C U sc ar sv av pv acc T3 W)(hk:Keeps fp W W')(hf:∀x∈fp,U≤x)(hcu:C≤U):Own3 b B C U sc ar sv av pv acc T3 W':=
  ⟨h.sc.kp strL hk fun x hx ht=>Nat.not_lt_of_le (Nat.le_trans hcu (hf x hx)) ht.2,h.ar.kp strL hk fun x hx ht=>Nat.not_lt_of_le (Nat.le_trans hcu (hf x hx)) ht.2,h.fs.kp flagsL hk fun x hx ht=>Nat.not_lt_of_le (hf x hx) (h.u3 x ht),h.u3,Nat.le_trans h.us hk.size,h.d3,h.bc,Nat.le_trans h.cs hk.size⟩
theorem Own3.up(h:Own3 b B C U sc ar sv av pv acc T3 W):Own3 b B C W.heap.size sc ar sv av pv acc T3 W:=⟨h.sc,h.ar,h.fs,fun x hx=>Nat.lt_of_lt_of_le (h.u3 x hx) h.us,Nat.le_refl _,h.d3,h.bc,h.cs⟩
theorem Own3.app(h:Own3 b B C U sc ar sv av pv acc T3 W)(hcu:C≤U)(hk:Keeps fl W W')(hfl:∀x∈fl,T3 x){l:List (List Bool)}(h4:∀x,T4 x→U≤x)(h4u:∀x,T4 x→x<W.heap.size)(ho:OwnL FlagsE 44 1 W' b (fun g=>T3 g∨T4 g∨(W.heap.size≤g∧g<W'.heap.size)) l v):Own3 b B C W'.heap.size sc ar sv av v l (fun g=>T3 g∨T4 g∨(W.heap.size≤g∧g<W'.heap.size)) W':=
  ⟨h.sc.kp strL hk fun x hx ht=>Nat.not_lt_of_le (h.d3 x (hfl x hx)) ht.2,h.ar.kp strL hk fun x hx ht=>Nat.not_lt_of_le (h.d3 x (hfl x hx)) ht.2,ho,fun x hx=>hx.elim (fun hx=>Nat.lt_of_lt_of_le (Nat.lt_of_lt_of_le (h.u3 x hx) h.us) hk.size) fun hx=>hx.elim (fun hx=>Nat.lt_of_lt_of_le (h4u x hx) hk.size) fun hx=>hx.2,Nat.le_refl _,fun x hx=>hx.elim (h.d3 x) fun hx=>hx.elim (fun hx=>Nat.le_trans hcu (h4 x hx)) fun hx=>Nat.le_trans h.cs hx.1,h.bc,Nat.le_trans h.cs hk.size⟩
end
/-- A row of flags of one's own (blocks T4, from U on). -/
structure Own4 (b U:Nat) (l:List Bool) (v:Value) (T4:Nat→Prop) (W:World):Prop where
  fs:OwnL BoolE 4 1 W b T4 l v
  u4:∀x,T4 x→x<W.heap.size
  d4:∀x,T4 x→U≤x
theorem Own4.kp{b U:Nat}{l:List Bool}{v:Value}{T4:Nat→Prop}{W W':World}{fp:List Nat}(h:Own4 b U l v T4 W)(hk:Keeps fp W W')(hf:∀x∈fp,x<U):Own4 b U l v T4 W':=
  ⟨h.fs.kp boolL hk fun x hx ht=>Nat.not_lt_of_le (h.d4 x ht) (hf x hx),fun x hx=>Nat.lt_of_lt_of_le (h.u4 x hx) hk.size,h.d4⟩
theorem Own4.app{b U:Nat}{l m:List Bool}{v v':Value}{T4:Nat→Prop}{W W':World}{fl:List Nat}(h:Own4 b U l v T4 W)(hu:U≤W.heap.size)(hk:Keeps fl W W')(ho:OwnL BoolE 4 1 W' b (fun g=>T4 g∨(W.heap.size≤g∧g<W'.heap.size)) m v'):Own4 b U m v' (fun g=>T4 g∨(W.heap.size≤g∧g<W'.heap.size)) W':=
  ⟨ho,fun x hx=>hx.elim (fun hx=>Nat.lt_of_lt_of_le (h.u4 x hx) hk.size) fun hx=>hx.2,fun x hx=>hx.elim (h.d4 x) fun hx=>Nat.le_trans hu hx.1⟩
theorem info4:∃i,Tryz.prog.info? 4=some i∧i.zero=some (.bool false)∧i.size=1∧i.bytes=1:=by
  have h:(Tryz.prog.info? 4).map (fun i=>(i.zero,i.size,i.bytes))=some (some (.bool false),1,1):=by kernel_rfl
  cases hi:Tryz.prog.info? 4 with
  |none=>rw [hi] at h;cases h
  |some i=>rw [hi] at h;simp at h;exact ⟨i,rfl,h.1,h.2.1,h.2.2⟩
theorem info36:∃i,Tryz.prog.info? 44=some i∧i.zero=some (.slice none 0 0)∧i.size=1∧i.bytes=24:=by
  have h:(Tryz.prog.info? 44).map (fun i=>(i.zero,i.size,i.bytes))=some (some (.slice none 0 0),1,24):=by kernel_rfl
  cases hi:Tryz.prog.info? 44 with
  |none=>rw [hi] at h;cases h
  |some i=>rw [hi] at h;simp at h;exact ⟨i,rfl,h.1,h.2.1,h.2.2⟩
/-- append of a flag. -/
theorem app_flag{ops:Array Oper}{rest:List Oper}{o:Oper}{a:Act}{w:World}{Q:Exit→Act→World→Prop}(hgd:o.guard=none)(s y:Operand)
    (ho:o.op= .call {callee:= .builtin .append,args:= #[s,y],argTypes:= #[44,44]})
    {b G cap:Nat} {T:Nat→Prop} {l:List Bool} {x:Bool} {v:Value} (hs:a.eval s=v) (hy:a.eval y= .slice (some ⟨G,0,none⟩) 1 cap) (hO:OwnL BoolE 4 1 w b T l v)
    (hG:w.heap[G]? =some (.cells #[.bool x] 4 (0,0))) (hT:∀g,T g→g<w.heap.size) (hb:b≤w.heap.size) (hl:l.length≤400000)
    (h:∀v' w' fl,(∀x∈fl,T x)→Keeps fl w w'→OwnL BoolE 4 1 w' b (fun g=>T g∨(w.heap.size≤g∧g<w'.heap.size)) (l++ [x]) v'→wpList Tryz.prog ops Q rest (a.put o.dst v') w'):wpList Tryz.prog ops Q (o::rest) a w:=by
  obtain ⟨i,hi,hz,hsz,hby⟩:=info4
  exact wpList_appL boolL hgd s y 44 ho Tryz.underlying44 hi hz hsz hby rfl (by decide) (by decide) hs hy hO (S:=fun _=>False) (c:= [.bool x]) hG rfl (fun _ h=>h.elim) (fun _ h=>h.elim) hT hb hl
    fun v' w' fl h1 h2 h3=>h v' w' fl h1 h2 (h3.to boolL fun g hg=>hg.elim .inl fun hg=>hg.elim (fun h=>h.elim) .inr)
/-- append of a row of flags. -/
theorem app_flags{ops:Array Oper}{rest:List Oper}{o:Oper}{a:Act}{w:World}{Q:Exit→Act→World→Prop}(hgd:o.guard=none)(s y:Operand)
    (ho:o.op= .call {callee:= .builtin .append,args:= #[s,y],argTypes:= #[51,51]})
    {b G cap:Nat} {T S:Nat→Prop} {l:List (List Bool)} {x:List Bool} {v:Value} {xa:Option Addr} {n xc:Nat} (hs:a.eval s=v) (hy:a.eval y= .slice (some ⟨G,0,none⟩) 1 cap) (hO:OwnL FlagsE 44 1 w b T l v)
    (hG:w.heap[G]? =some (.cells #[.slice xa n xc] 44 (0,0))) (hn:n=x.length) (hx:SliceR BoolE w S x (.slice xa x.length xc)) (hd:∀g,S g→¬T g) (hS:∀g,S g→g<w.heap.size) (hT:∀g,T g→g<w.heap.size) (hb:b≤w.heap.size) (hl:l.length≤400000)
    (h:∀v' w' fl,(∀x∈fl,T x)→Keeps fl w w'→OwnL FlagsE 44 1 w' b (fun g=>T g∨S g∨(w.heap.size≤g∧g<w'.heap.size)) (l++ [x]) v'→wpList Tryz.prog ops Q rest (a.put o.dst v') w'):wpList Tryz.prog ops Q (o::rest) a w:=by
  obtain ⟨i,hi,hz,hsz,hby⟩:=info36
  subst hn
  exact wpList_appL flagsL hgd s y 51 ho Tryz.underlying51 hi hz hsz hby rfl (by decide) (by decide) hs hy hO (c:= [.slice xa x.length xc]) hG ⟨xa,xc,rfl,hx⟩ hd hS hT hb hl h
def InfI1(K:CKey)(st:NS)(kf:Kinds)(w:World)(R X kb it B:Nat)(g:Nat)(W:World):Prop:=
  ∃(p:List Thing) (n:Nat) (sv av:Value) (T1 T2:Nat→Prop),RangeS W it K.mn st.seen p n∧g=n+1∧Own2 w.heap.size B (pickN st kf false p) (pickN st kf true p) sv av T1 T2 W∧KindW W kb (fun x=>kof x kf)∧Keeps [] w W∧W.heap[R]? =some (.cells #[.slice none 0 0,.slice none 0 0,.slice none 0 0] 53 (0,0))∧W.heap[X]? =some (.cells #[sv,av,.slice none 0 0] 53 (0,0))
def InfI2(K:CKey)(st:NS)(kf:Kinds)(ps:List (List Bool))(w:World)(R X kb B C:Nat)(sc ar:List ByteArray)(sv av:Value)(g:Nat)(j:Value)(W:World):Prop:=
  ∃k:Nat,j= .int .i64 k∧k≤K.g.funcs.length∧g+k=K.g.funcs.length+1∧∃(acc rest:List (List Bool)) (pv:Value) (T3:Nat→Prop) (U:Nat),parsAll st kf k (K.g.funcs.drop k)=some rest∧acc++rest=ps∧acc.length=k∧Own3 w.heap.size B C U sc ar sv av pv acc T3 W∧KindW W kb (fun x=>kof x kf)∧Keeps [] w W∧W.heap[R]? =some (.cells #[.slice none 0 0,.slice none 0 0,.slice none 0 0] 53 (0,0))∧W.heap[X]? =some (.cells #[sv,av,pv] 53 (0,0))
def InfI3(K:CKey)(st:NS)(kf:Kinds)(k:Nat)(params:List ByteArray)(xs:List Bool)(w:World)(R X kb B C U:Nat)(sc ar:List ByteArray)(sv av pv:Value)(acc:List (List Bool))(T3:Nat→Prop)(g:Nat)(l j:Value)(W:World):Prop:=
  ∃i:Nat,j= .int .i64 i∧i≤params.length∧g+i=params.length+1∧∃(a4 rest:List Bool) (T4:Nat→Prop),parsF st kf k (params.drop i)=some rest∧a4++rest=xs∧a4.length=i∧Own4 w.heap.size U a4 l T4 W∧Own3 w.heap.size B C U sc ar sv av pv acc T3 W∧KindW W kb (fun x=>kof x kf)∧Keeps [] w W∧W.heap[R]? =some (.cells #[.slice none 0 0,.slice none 0 0,.slice none 0 0] 53 (0,0))∧W.heap[X]? =some (.cells #[sv,av,pv] 53 (0,0))

theorem info_any{K : CKey}(hK:CFix K){T:Nat→Prop}{ua:Option Addr}{uc:Nat}{st:NS}{w:World}(h:CK K T ua uc st w){kf:Kinds}{x:InfoP}(hkf:kindsF st=some kf)(hul:st.uses.length≤1000000)(hsl:st.seen.length≤400000)(hfl0:K.g.funcs.length≤400000)(hpl0:∀f∈K.g.funcs,f.params.length≤400000)(hxi:infoF st kf K.g=some x):
    Calls Tryz.prog 31 #[.pointer (some ⟨K.c,0,none⟩)] w fun r w'=>∃v,r= .returned v∧InfoV w' (fun g=>w.heap.size≤g) x v∧Keeps [] w w':=by
  unfold infoF at hxi
  simp only [Option.bind_eq_bind,Option.bind_eq_some_iff,Option.some.injEq] at hxi
  obtain ⟨sc0,hns,ar0,hna,ps,hps,rfl⟩:=hxi
  obtain ⟨hroots,hsc0⟩:=namesF_ok hns
  obtain ⟨-,har0⟩:=namesF_ok hna
  have HRO:=Lib.hid hroots;have HNS:=Lib.hid hsc0;have HNA:=Lib.hid har0;have HPS0:=Lib.hid hps;have HKF:=Lib.hid hkf;have HPL0:=Lib.hid hpl0
  clear hns hna hps hroots hsc0 har0 hkf hpl0
  have HC0:=Lib.hid h;have HK0:=Lib.hid (Keeps.refl [] w)
  clear h
  obtain ⟨fa,hfa0⟩:∃x,K.fa=x:=⟨_,rfl⟩
  go_enter Tryz.func31,Tryz.ntmps31
  have l_c:=h_lt (HC0.out.kp0 HK0.out).row
  have l_mn:=(HC0.out.kp0 HK0.out).lt.2.2.2
  go_wp2_with fail
  refine calls_at (fun W=>Keeps [] w W∧W.heap[w.heap.size]? =some (.cells #[.slice none 0 0,.slice none 0 0,.slice none 0 0] 53 (0,0))) ⟨(by with_reducible repeat (first|exact k0 _ _|refine kA ?_ _|refine kD ?_|refine kS ?_ (by simp)|refine kM ?_ (by simp))),(by simp only [hS,hA,hD,hM,World.size_setCell,World.size_drew,reduceIte,Option.map_some,Obj.put]<;>rfl)⟩ ?_
  rintro w1 ⟨Kw1,cw1_R⟩
  have n_c_R:K.c≠w.heap.size:=Nat.ne_of_lt l_c
  have n_R_c:w.heap.size≠K.c:=Nat.ne_of_gt l_c
  have n_mn_R:K.mn≠w.heap.size:=Nat.ne_of_lt l_mn
  have n_R_mn:w.heap.size≠K.mn:=Nat.ne_of_gt l_mn
  have o_R:w.heap.size≤w.heap.size:=Nat.le_refl _
  have HKw1:=Lib.hid (HK0.out.trans Kw1 (by simp))
  have Rw1_R:=Lib.hid cw1_R
  clear Kw1 cw1_R l_c l_mn HK0
  refine (kinds_any hK (HC0.out.kp0 HKw1.out) HKF.out hul).mono ?_
  rintro r e2 ⟨kb,rfl,hle,hkb,hk⟩
  have Re2_R:=Lib.hid (hk.at Rw1_R.out (by simp))
  have HKe2:=Lib.hid (HKw1.out.trans hk (by simp))
  have HKB:=Lib.hid hkb
  have hwk:w.heap.size≤kb:=Nat.le_trans (HKw1.out.size) hle
  have l_Rk:=Nat.lt_of_lt_of_le (h_lt Rw1_R.out) hle
  have n_R_kb:w.heap.size≠kb:=Nat.ne_of_lt l_Rk
  have n_kb_R:=Ne.symm n_R_kb
  have n_kb_c:kb≠K.c:=fun e=>by have:=HC0.out.lt.1;omega
  have n_c_kb:=Ne.symm n_kb_c
  have n_kb_mn:kb≠K.mn:=fun e=>by have:=HC0.out.lt.2.2.2;omega
  have n_mn_kb:=Ne.symm n_kb_mn
  have o_kb:=hwk
  clear hkb hle
  clear hk Rw1_R HKw1
  have l_c:=h_lt (HC0.out.kp0 HKe2.out).row
  have l_R:=h_lt Re2_R.out
  have l_mn:=(HC0.out.kp0 HKe2.out).lt.2.2.2
  have l_kb:=HKB.out.lt
  go_upto_region 3 with fail
  refine wp_at (fun W=>Keeps [] e2 W∧W.heap[e2.heap.size]? =some (.cells #[.slice none 0 0,.slice none 0 0,.slice none 0 0] 53 (0,0))) ⟨(by with_reducible repeat (first|exact k0 _ _|refine kA ?_ _|refine kD ?_|refine kS ?_ (by simp)|refine kM ?_ (by simp))),(by simp only [hS,hA,hD,hM,World.size_setCell,World.size_drew,reduceIte,Option.map_some,Obj.put]<;>rfl)⟩ ?_
  rintro w3 ⟨Kw3,cw3_X⟩
  have n_c_X:K.c≠e2.heap.size:=Nat.ne_of_lt l_c
  have n_X_c:e2.heap.size≠K.c:=Nat.ne_of_gt l_c
  have n_mn_X:K.mn≠e2.heap.size:=Nat.ne_of_lt l_mn
  have n_X_mn:e2.heap.size≠K.mn:=Nat.ne_of_gt l_mn
  have n_R_X:w.heap.size≠e2.heap.size:=Nat.ne_of_lt l_R
  have n_X_R:e2.heap.size≠w.heap.size:=Nat.ne_of_gt l_R
  have n_kb_X:kb≠e2.heap.size:=Nat.ne_of_lt l_kb
  have n_X_kb:e2.heap.size≠kb:=Nat.ne_of_gt l_kb
  have o_X:w.heap.size≤e2.heap.size:=HKe2.out.size
  have Rw3_R:=Lib.hid (Kw3.at Re2_R.out (by simp))
  have HKw3:=Lib.hid (HKe2.out.trans Kw3 (by simp))
  have HKkbw3:=Lib.hid (HKB.out.keep Kw3 (by simp))
  have Rw3_X:=Lib.hid cw3_X
  clear Kw3 cw3_X l_c l_R l_mn l_kb Re2_R HKe2 HKB
  obtain ⟨l_c,xc_0,xc_1,xc_2,xc_3,xc_4,xc_5,xc_6,xc_7,xc_8,xc_9,xc_10,yc_0,yc_1,yc_2,yc_3,yc_4,yc_5,yc_6,yc_7,yc_8,yc_9,yc_10⟩:=cf11 (HC0.out.kp0 HKw3.out).row
  have l_R:=h_lt Rw3_R.out
  have l_X:=h_lt Rw3_X.out
  have l_mn:=(HC0.out.kp0 HKw3.out).lt.2.2.2
  have l_kb:=HKkbw3.out.lt
  obtain ⟨w4,hrun,k4,hsz,hrs⟩:=RangeS.start (HC0.out.kp0 HKw3.out).seen Tryz.underlying89
  obtain ⟨it,hit⟩:∃x,x=w3.heap.size:=⟨_,rfl⟩
  rw [←hit] at hrun hsz hrs
  have b_R:w.heap.size<it+1:=hit▸Nat.lt_succ_of_lt (h_lt Rw3_R.out)
  have b_X:e2.heap.size<it+1:=hit▸Nat.lt_succ_of_lt (h_lt Rw3_X.out)
  have b_kb:kb<it+1:=hit▸Nat.lt_succ_of_lt HKkbw3.out.lt
  have b_it:it<it+1:=Nat.lt_succ_self _
  have hwb:w.heap.size≤it+1:=hit▸Nat.le_succ_of_le HKw3.out.size
  have b_mn:K.mn<it+1:=Nat.lt_of_lt_of_le HC0.out.lt.2.2.2 hwb
  have b_c:K.c<it+1:=Nat.lt_of_lt_of_le HC0.out.lt.1 hwb
  have n_R_it:w.heap.size≠it:=hit▸Nat.ne_of_lt (h_lt Rw3_R.out)
  have n_X_it:e2.heap.size≠it:=hit▸Nat.ne_of_lt (h_lt Rw3_X.out)
  have n_kb_it:kb≠it:=hit▸Nat.ne_of_lt HKkbw3.out.lt
  have n_mn_it:K.mn≠it:=hit▸Nat.ne_of_lt (Nat.lt_of_lt_of_le HC0.out.lt.2.2.2 HKw3.out.size)
  have n_it_R:=Ne.symm n_R_it
  have n_it_X:=Ne.symm n_X_it
  have n_it_kb:=Ne.symm n_kb_it
  have n_it_mn:=Ne.symm n_mn_it
  have hw4:it+1≤w4.heap.size:=Nat.le_of_eq hsz.symm
  have HR4:=Lib.hid hrs
  have Rw4_R:=Lib.hid (k4.at Rw3_R.out (by simp))
  have Rw4_X:=Lib.hid (k4.at Rw3_X.out (by simp))
  have HKw4:=Lib.hid (HKw3.out.trans k4 (by simp))
  have HKkbw4:=Lib.hid (HKkbw3.out.keep k4 (by simp))
  clear hrs hsz hit
  go_wp2_with fail
  clear l_c xc_0 xc_1 xc_2 xc_3 xc_4 xc_5 xc_6 xc_7 xc_8 xc_9 xc_10 yc_0 yc_1 yc_2 yc_3 yc_4 yc_5 yc_6 yc_7 yc_8 yc_9 yc_10 l_R l_X l_mn l_kb hrun
  go_loopg [] (st.seen.length+1) (fun g wr=>InfI1 K st kf w (w.heap.size) (e2.heap.size) kb it (it+1) g wr)
  case atStart=>exact ⟨[],st.seen.length,.slice none 0 0,.slice none 0 0,fun _=>False,fun _=>False,HR4.out,rfl,⟨OwnL.nil,OwnL.nil,fun _ h=>h.elim,fun _ h=>h.elim,fun _ h=>h.elim,fun _ h=>h.elim,fun _ h=>h.elim⟩,HKkbw4.out,HKw4.out,Rw4_R.out,Rw4_X.out⟩
  case round=>
    rename World=>wo
    obtain ⟨p,n,sv,av,T1,T2,hrs,hg,ho,hkb,hk,hR,hX⟩:=hrel
    have hplen:=hrs.plen
    obtain ⟨sa,sc,rfl,-⟩:=ho.sc.slice
    obtain ⟨aa,ac,rfl,-⟩:=ho.ar.slice
    have HKBwo:=Lib.hid hkb;have HKwo:=Lib.hid hk;have HOwo:=Lib.hid ho;have RRwo:=Lib.hid hR;have RXwo:=Lib.hid hX
    clear hkb hk ho hR hX
    have HLS:Hid ((pickN st kf false p).length≤400000):=Lib.hid (Nat.le_trans (pickN_len p) (by omega))
    have HLA:Hid ((pickN st kf true p).length≤400000):=Lib.hid (Nat.le_trans (pickN_len p) (by omega))
    rcases hrs.next 0 with ⟨hperm,hrun2⟩|⟨t,n2,wn,ht,hn,hrun2,hkn,hszn,hrn⟩
    · have HL1 : Hid ((pickN st kf false p).length≤1000000):=Lib.hid (Nat.le_trans HLS.out (by omega))
      have HL2:Hid ((pickN st kf true p).length≤1000000):=Lib.hid (Nat.le_trans HLA.out (by omega))
      have HRwo:=Lib.hid hrs
      have HLES:Hid ((pickN st kf false p).length=(sortB sc0).length):=Lib.hid (by rw [(sortB_perm sc0).length_eq,HNS.out,(pickN_perm hperm).length_eq])
      have HLEA:Hid ((pickN st kf true p).length=(sortB ar0).length):=Lib.hid (by rw [(sortB_perm ar0).length_eq,HNA.out,(pickN_perm hperm).length_eq])
      clear hrs hplen HLS HLA
      have l_c:=h_lt (HC0.out.kp0 HKwo.out).row
      have l_R:=h_lt RRwo.out
      obtain ⟨l_X,xX_0,xX_1,xX_2,yX_0,yX_1,yX_2⟩:=cf3 RXwo.out
      have l_mn:=(HC0.out.kp0 HKwo.out).lt.2.2.2
      have l_kb:=HKBwo.out.lt
      have l_it:=HRwo.out.lt.1
      go_wp2_with fail
      clear l_c l_R l_X xX_0 xX_1 xX_2 yX_0 yX_1 yX_2 l_mn l_kb l_it
      refine (sort_str HOwo.out.sc HL1.out).mono ?_
      rintro r e51 ⟨rfl,ho,fl,hfl,hk⟩
      have Re51_R:=Lib.hid (hk.at RRwo.out (fun h=>Nat.not_lt_of_le (HOwo.out.d1 _ (hfl _ h)) b_R))
      have Re51_X:=Lib.hid (hk.at RXwo.out (fun h=>Nat.not_lt_of_le (HOwo.out.d1 _ (hfl _ h)) b_X))
      have HKe51:=Lib.hid (HKwo.out.trans hk (fun x h=> .inr (Nat.le_trans hwb (HOwo.out.d1 x (hfl x h)))))
      have HKkbe51:=Lib.hid (HKBwo.out.keep hk (fun h=>Nat.not_lt_of_le (HOwo.out.d1 _ (hfl _ h)) b_kb))
      have HRe51:=Lib.hid (HRwo.out.keep hk (fun h=>Nat.not_lt_of_le (HOwo.out.d1 _ (hfl _ h)) b_mn) (fun h=>Nat.not_lt_of_le (HOwo.out.d1 _ (hfl _ h)) b_it))
      have HOe51:=Lib.hid (HOwo.out.to1 hk hfl ho)
      clear ho hfl HOwo
      clear hk RRwo RXwo HKwo HKBwo HRwo
      have l_c:=h_lt (HC0.out.kp0 HKe51.out).row
      have l_R:=h_lt Re51_R.out
      obtain ⟨l_X,xX_0,xX_1,xX_2,yX_0,yX_1,yX_2⟩:=cf3 Re51_X.out
      have l_mn:=(HC0.out.kp0 HKe51.out).lt.2.2.2
      have l_kb:=HKkbe51.out.lt
      have l_it:=HRe51.out.lt.1
      go_wp2_with fail
      clear l_c l_R l_X xX_0 xX_1 xX_2 yX_0 yX_1 yX_2 l_mn l_kb l_it
      refine (sort_str HOe51.out.ar HL2.out).mono ?_
      rintro r e52 ⟨rfl,ho,fl,hfl,hk⟩
      have Re52_R:=Lib.hid (hk.at Re51_R.out (fun h=>Nat.not_lt_of_le (HOe51.out.d2 _ (hfl _ h)) b_R))
      have Re52_X:=Lib.hid (hk.at Re51_X.out (fun h=>Nat.not_lt_of_le (HOe51.out.d2 _ (hfl _ h)) b_X))
      have HKe52:=Lib.hid (HKe51.out.trans hk (fun x h=> .inr (Nat.le_trans hwb (HOe51.out.d2 x (hfl x h)))))
      have HKkbe52:=Lib.hid (HKkbe51.out.keep hk (fun h=>Nat.not_lt_of_le (HOe51.out.d2 _ (hfl _ h)) b_kb))
      have HRe52:=Lib.hid (HRe51.out.keep hk (fun h=>Nat.not_lt_of_le (HOe51.out.d2 _ (hfl _ h)) b_mn) (fun h=>Nat.not_lt_of_le (HOe51.out.d2 _ (hfl _ h)) b_it))
      have HOe52:=Lib.hid (HOe51.out.to2 hk hfl ho)
      clear ho hfl HOe51
      clear hk Re51_R Re51_X HKe51 HKkbe51 HRe51
      obtain ⟨l_c,xc_0,xc_1,xc_2,xc_3,xc_4,xc_5,xc_6,xc_7,xc_8,xc_9,xc_10,yc_0,yc_1,yc_2,yc_3,yc_4,yc_5,yc_6,yc_7,yc_8,yc_9,yc_10⟩:=cf11 (HC0.out.kp0 HKe52.out).row
      have l_R:=h_lt Re52_R.out
      have l_X:=h_lt Re52_X.out
      have l_mn:=(HC0.out.kp0 HKe52.out).lt.2.2.2
      have l_kb:=HKkbe52.out.lt
      have l_it:=HRe52.out.lt.1
      rw [hfa0] at xc_1
      go_wp2_with fail
      clear l_c xc_0 xc_1 xc_2 xc_3 xc_4 xc_5 xc_6 xc_7 xc_8 xc_9 xc_10 yc_0 yc_1 yc_2 yc_3 yc_4 yc_5 yc_6 yc_7 yc_8 yc_9 yc_10 l_R l_X l_mn l_kb l_it
      have hbw:it+1≤e52.heap.size:=HRe52.out.lt.1
      have hwC0:w.heap.size≤e52.heap.size:=HKe52.out.size
      have c0_R:=h_lt Re52_R.out
      have c0_X:=h_lt Re52_X.out
      have c0_kb:=HKkbe52.out.lt
      have HO3:=Lib.hid (HOe52.out.three hbw)
      rw [sortB_of_perm (pickN_perm hperm),sortB_of_perm (pickN_perm (arr:=true) hperm),←HNS.out,←HNA.out] at HO3
      obtain ⟨C,hCe⟩:∃x,x=e52.heap.size:=⟨_,rfl⟩
      rw [←hCe] at HO3 hwC0 c0_R c0_X c0_kb
      have hwC:=hwC0
      have c_R:=c0_R
      have c_X:=c0_X
      have c_kb:=c0_kb
      clear hCe hbw hwC0 c0_R c0_X c0_kb HRe52
      go_loopg [64] (K.g.funcs.length+1) (fun g j wf=>InfI2 K st kf ps w (w.heap.size) (e2.heap.size) kb (it+1) C (sortB sc0) (sortB ar0) (.slice sa (pickN st kf false p).length sc) (.slice aa (pickN st kf true p).length ac) g j wf)
      case atStart=>exact ⟨0,rfl,Nat.zero_le _,rfl,[],ps,_,_,_,HPS0.out,rfl,rfl,HO3.out,HKkbe52.out,HKe52.out,Re52_R.out,Re52_X.out⟩
      case round=>
        rename World=>wf
        obtain ⟨k,rfl,hk1,hk2,acc,rest,pv,T3,U,hrest,hacc,hacl,ho,hkb,hk,hR,hX⟩:=hrel
        obtain ⟨pa3,pc3,rfl,-⟩:=ho.fs.slice
        have HACL:=Lib.hid hacl
        have HKBwf:=Lib.hid hkb;have HKwf:=Lib.hid hk;have HO3wf:=Lib.hid ho;have RRwf:=Lib.hid hR;have RXwf:=Lib.hid hX
        clear hkb hk ho hR hX hacl
        by_cases hlt:k<K.g.funcs.length
        · obtain ⟨g, o, pa,pc,b0,b1,b2,b3,b4,hfa,c0,c1,c2,c3,c4,c5,c6,c7,hsp,hnb⟩:=CK.func hK (HC0.out.kp0 HKwf.out) hlt
          obtain ⟨fmb,nab,ncb,hvb,-⟩:=hnb.kids
          simp only [Value.agg.injEq,Array.mk.injEq,List.cons.injEq,and_true] at hvb
          obtain ⟨rfl,rfl,rfl,rfl,rfl⟩:=hvb
          have lg:g<wf.heap.size:=lt_cell c0
          have efa:=hfa0.symm.trans hfa
          subst efa
          have hpl:K.g.funcs[k].params.length≤400000:=HPL0.out _ (List.getElem_mem hlt)
          rw [List.drop_eq_getElem_cons hlt,parsAll] at hrest
          generalize K.g.funcs[k]=fu at*
          simp only [Option.bind_eq_bind,Option.bind_eq_some_iff,Option.some.injEq] at hrest
          obtain ⟨xs,hxs,rest2,hrest0,rfl⟩:=hrest
          have HXS:=Lib.hid hxs;have HSP:=Lib.hid hsp
          clear hxs hsp hnb
          cases gk with
          |zero=>omega
          | succ f=>
            have l_c:=h_lt (HC0.out.kp0 HKwf.out).row
            have l_R:=h_lt RRwf.out
            have l_X:=h_lt RXwf.out
            have l_mn:=(HC0.out.kp0 HKwf.out).lt.2.2.2
            have l_kb:=HKBwf.out.lt
            go_wp2_with fail
            refine wp_at (fun W=>Keeps [] wf W∧W.heap[wf.heap.size]? =some (.cells #[.string fu.name,.slice pa fu.params.length pc,.int .i64 fu.body.kind,.string fu.body.name,.float .f64 fmb,.slice nab fu.body.kids.length ncb,.complex .f64 fu.body.re fu.body.im,.complex .f64 fu.re fu.im] 67 (0,0))) ⟨(by with_reducible repeat (first|exact k0 _ _|refine kA ?_ _|refine kD ?_|refine kS ?_ (by simp)|refine kM ?_ (by simp))),(by simp only [hS,hA,hD,hM,World.size_setCell,World.size_drew,reduceIte,Option.map_some,Obj.put]<;>rfl)⟩ ?_
            rintro w51 ⟨Kw51,cw51_F⟩
            have n_c_F:K.c≠wf.heap.size:=Nat.ne_of_lt l_c
            have n_F_c:wf.heap.size≠K.c:=Nat.ne_of_gt l_c
            have n_mn_F:K.mn≠wf.heap.size:=Nat.ne_of_lt l_mn
            have n_F_mn:wf.heap.size≠K.mn:=Nat.ne_of_gt l_mn
            have n_kb_F:kb≠wf.heap.size:=Nat.ne_of_lt l_kb
            have n_F_kb:wf.heap.size≠kb:=Nat.ne_of_gt l_kb
            have n_R_F:w.heap.size≠wf.heap.size:=Nat.ne_of_lt l_R
            have n_F_R:wf.heap.size≠w.heap.size:=Nat.ne_of_gt l_R
            have n_X_F:e2.heap.size≠wf.heap.size:=Nat.ne_of_lt l_X
            have n_F_X:wf.heap.size≠e2.heap.size:=Nat.ne_of_gt l_X
            have o_F:w.heap.size≤wf.heap.size:=HKwf.out.size
            have Rw51_R:=Lib.hid (Kw51.at RRwf.out (by simp))
            have Rw51_X:=Lib.hid (Kw51.at RXwf.out (by simp))
            have HKw51:=Lib.hid (HKwf.out.trans Kw51 (by simp))
            have HKkbw51:=Lib.hid (HKBwf.out.keep Kw51 (by simp))
            have HO3w51:=Lib.hid (HO3wf.out.kp Kw51 (by simp))
            have Rw51_F:=Lib.hid cw51_F
            clear Kw51 cw51_F l_c l_R l_X l_mn l_kb RRwf RXwf HKwf HKBwf HO3wf
            have HO3u:=Lib.hid HO3w51.out.up
            obtain ⟨U2,hU2⟩:∃x,x=w51.heap.size:=⟨_,rfl⟩
            have u_R:=h_lt Rw51_R.out
            have u_X:=h_lt Rw51_X.out
            have u_kb:=HKkbw51.out.lt
            have hwU:=HKw51.out.size
            have hcu:=HO3w51.out.cs
            rw [←hU2] at HO3u u_R u_X u_kb hwU hcu
            clear hU2
            go_loopg [8,72] (fu.params.length+1) (fun g l j wr=>InfI3 K st kf k fu.params xs w (w.heap.size) (e2.heap.size) kb (it+1) C U2 (sortB sc0) (sortB ar0) (.slice sa (pickN st kf false p).length sc) (.slice aa (pickN st kf true p).length ac) (.slice pa3 acc.length pc3) acc T3 g l j wr)
            case atStart=>exact ⟨0,rfl,Nat.zero_le _,rfl,[],xs,fun _=>False,HXS.out,rfl,rfl,⟨OwnL.nil,fun _ h=>h.elim,fun _ h=>h.elim⟩,HO3u.out,HKkbw51.out,HKw51.out,Rw51_R.out,Rw51_X.out⟩
            case round=>
              obtain ⟨i,rfl,hi1,hi2,a4,rest4,T4,hrest,ha4,hal,ho4,ho3,hkb,hk,hR,hX⟩:=hrel
              have HAL:=Lib.hid hal;have HLA4:Hid (a4.length≤fu.params.length):=Lib.hid (by omega)
              have HKBwr:=Lib.hid hkb;have HKwr:=Lib.hid hk;have HO3wr:=Lib.hid ho3;have HO4wr:=Lib.hid ho4;have RRwr:=Lib.hid hR;have RXwr:=Lib.hid hX
              clear hkb hk ho3 ho4 hR hX hal
              by_cases hlt2:i<fu.params.length
              · obtain ⟨g2,o2,hpa,hcs⟩:=CK.str (HC0.out.kp0 HKwr.out) HSP.out hlt2
                subst hpa
                have lg2:g2<wr.heap.size:=lt_cell hcs
                rw [List.drop_eq_getElem_cons hlt2,parsF] at hrest
                generalize fu.params[i]=s at*
                simp only [Option.bind_eq_bind,Option.bind_eq_some_iff,Option.some.injEq] at hrest
                obtain ⟨r,hrt,rest5,hrest,rfl⟩:=hrest
                have HRT:=Lib.hid hrt
                have HLL:Hid (a4.length≤400000):=Lib.hid (Nat.le_trans HLA4.out hpl)
                clear hrt
                obtain ⟨kn,hkn⟩:∃x,x=kof r kf:=⟨_,rfl⟩
                have HKN:=Lib.hid hkn
                rw [←hkn] at ha4
                clear hkn
                cases gk with
                |zero=>omega
                | succ f2=>
                  by_cases h2:kn=2
                  · have d2:((kn:Int)==2)=true:=by simp [h2]
                    have d3:(kn==2)=true:=by simp [h2]
                    rw [d3] at ha4
                    have l_c:=h_lt (HC0.out.kp0 HKwr.out).row
                    have l_R:=h_lt RRwr.out
                    have l_X:=h_lt RXwr.out
                    have l_mn:=(HC0.out.kp0 HKwr.out).lt.2.2.2
                    have l_kb:=HKBwr.out.lt
                    go_wp2_with fail
                    clear l_c l_R l_X l_mn l_kb
                    refine (root_z (HC0.out.kp0 HKwr.out) (t:=(k+1,s)) HRT.out (by simp) rfl).mono ?_
                    rintro r e71 ⟨rfl,hk⟩
                    have Re71_R:=Lib.hid (hk.at RRwr.out (by simp))
                    have Re71_X:=Lib.hid (hk.at RXwr.out (by simp))
                    have HKe71:=Lib.hid (HKwr.out.trans hk (by simp))
                    have HKkbe71:=Lib.hid (HKBwr.out.keep hk (by simp))
                    have HO3e71:=Lib.hid (HO3wr.out.kp hk (by simp))
                    have HO4e71:=Lib.hid (HO4wr.out.kp hk (by simp))
                    clear hk RRwr RXwr HKwr HKBwr HO3wr HO4wr
                    have l_c:=h_lt (HC0.out.kp0 HKe71.out).row
                    have l_R:=h_lt Re71_R.out
                    have l_X:=h_lt Re71_X.out
                    have l_mn:=(HC0.out.kp0 HKe71.out).lt.2.2.2
                    have l_kb:=HKkbe71.out.lt
                    have hlk2:=HKkbe71.out.look r (n:=kn) HKN.out
                    go_wp2_with (
                      at_builtin
                      go_loud (
                        refine list_at (fun W=>Keeps [] e71 W∧W.heap[e71.heap.size]? =some (.cells #[.bool true] 4 (0,0))) ⟨(by with_reducible repeat (first|exact k0 _ _|refine kA ?_ _|refine kD ?_|refine kS ?_ (by simp)|refine kM ?_ (by simp))),(by simp only [hS,hA,hD,hM,World.size_setCell,World.size_drew,reduceIte,Option.map_some,Obj.put]<;>rfl)⟩ ?_
                        rintro w72 ⟨Kw72,cw72_G⟩
                        have n_c_G:K.c≠e71.heap.size:=Nat.ne_of_lt l_c
                        have n_G_c:e71.heap.size≠K.c:=Nat.ne_of_gt l_c
                        have n_mn_G:K.mn≠e71.heap.size:=Nat.ne_of_lt l_mn
                        have n_G_mn:e71.heap.size≠K.mn:=Nat.ne_of_gt l_mn
                        have n_kb_G:kb≠e71.heap.size:=Nat.ne_of_lt l_kb
                        have n_G_kb:e71.heap.size≠kb:=Nat.ne_of_gt l_kb
                        have n_R_G:w.heap.size≠e71.heap.size:=Nat.ne_of_lt l_R
                        have n_G_R:e71.heap.size≠w.heap.size:=Nat.ne_of_gt l_R
                        have n_X_G:e2.heap.size≠e71.heap.size:=Nat.ne_of_lt l_X
                        have n_G_X:e71.heap.size≠e2.heap.size:=Nat.ne_of_gt l_X
                        have o_G:w.heap.size≤e71.heap.size:=HKe71.out.size
                        have Rw72_R:=Lib.hid (Kw72.at Re71_R.out (by simp))
                        have Rw72_X:=Lib.hid (Kw72.at Re71_X.out (by simp))
                        have HKw72:=Lib.hid (HKe71.out.trans Kw72 (by simp))
                        have HKkbw72:=Lib.hid (HKkbe71.out.keep Kw72 (by simp))
                        have HO3w72:=Lib.hid (HO3e71.out.kp Kw72 (by simp))
                        have HO4w72:=Lib.hid (HO4e71.out.kp Kw72 (by simp))
                        have Rw72_G:=Lib.hid cw72_G
                        clear Kw72 cw72_G l_c l_R l_X l_mn l_kb Re71_R Re71_X HKe71 HKkbe71 HO3e71 HO4e71
                        refine app_flag rfl (.tmp 76) (.tmp 86) rfl rfl rfl HO4w72.out.fs Rw72_G.out HO4w72.out.u4 (HKw72.out.size) HLL.out ?_))
                    intro ve73 e73 fl hfl hk hown
                    have Re73_R:=Lib.hid (hk.at Rw72_R.out (fun h=>Nat.not_lt_of_le (HO4w72.out.d4 _ (hfl _ h)) u_R))
                    have Re73_X:=Lib.hid (hk.at Rw72_X.out (fun h=>Nat.not_lt_of_le (HO4w72.out.d4 _ (hfl _ h)) u_X))
                    have HKe73:=Lib.hid (HKw72.out.trans hk (fun x h=> .inr (Nat.le_trans hwU (HO4w72.out.d4 x (hfl x h)))))
                    have HKkbe73:=Lib.hid (HKkbw72.out.keep hk (fun h=>Nat.not_lt_of_le (HO4w72.out.d4 _ (hfl _ h)) u_kb))
                    have HO3e73:=Lib.hid (HO3w72.out.far hk (fun x h=>HO4w72.out.d4 x (hfl x h)) hcu)
                    have HO4e73:=Lib.hid (HO4w72.out.app HO3w72.out.us hk hown)
                    clear hown hk hfl Rw72_R Rw72_X HKw72 HKkbw72 HO3w72 HO4w72
                    have l_c:=h_lt (HC0.out.kp0 HKe73.out).row
                    have l_R:=h_lt Re73_R.out
                    have l_X:=h_lt Re73_X.out
                    have l_mn:=(HC0.out.kp0 HKe73.out).lt.2.2.2
                    have l_kb:=HKkbe73.out.lt
                    go_wp2_with fail
                    go_roundg f2
                    case measure=>omega
                    case rel=>
                      exact ⟨i+1,by first|rfl|(simp;done)|(simp;omega),by omega,by omega,a4++ [true],rest5,_,hrest,by simpa using ha4,by simp [HAL.out],HO4e73.out,HO3e73.out,HKkbe73.out,HKe73.out,Re73_R.out,Re73_X.out⟩
                  · have d2:((kn:Int)==2)=false:=by simp;omega
                    have d3:(kn==2)=false:=by simp [h2]
                    rw [d3] at ha4
                    have l_c:=h_lt (HC0.out.kp0 HKwr.out).row
                    have l_R:=h_lt RRwr.out
                    have l_X:=h_lt RXwr.out
                    have l_mn:=(HC0.out.kp0 HKwr.out).lt.2.2.2
                    have l_kb:=HKBwr.out.lt
                    go_wp2_with fail
                    clear l_c l_R l_X l_mn l_kb
                    refine (root_z (HC0.out.kp0 HKwr.out) (t:=(k+1,s)) HRT.out (by simp) rfl).mono ?_
                    rintro r e71 ⟨rfl,hk⟩
                    have Re71_R:=Lib.hid (hk.at RRwr.out (by simp))
                    have Re71_X:=Lib.hid (hk.at RXwr.out (by simp))
                    have HKe71:=Lib.hid (HKwr.out.trans hk (by simp))
                    have HKkbe71:=Lib.hid (HKBwr.out.keep hk (by simp))
                    have HO3e71:=Lib.hid (HO3wr.out.kp hk (by simp))
                    have HO4e71:=Lib.hid (HO4wr.out.kp hk (by simp))
                    clear hk RRwr RXwr HKwr HKBwr HO3wr HO4wr
                    have l_c:=h_lt (HC0.out.kp0 HKe71.out).row
                    have l_R:=h_lt Re71_R.out
                    have l_X:=h_lt Re71_X.out
                    have l_mn:=(HC0.out.kp0 HKe71.out).lt.2.2.2
                    have l_kb:=HKkbe71.out.lt
                    have hlk2:=HKkbe71.out.look r (n:=kn) HKN.out
                    go_wp2_with (
                      at_builtin
                      go_loud (
                        refine list_at (fun W=>Keeps [] e71 W∧W.heap[e71.heap.size]? =some (.cells #[.bool false] 4 (0,0))) ⟨(by with_reducible repeat (first|exact k0 _ _|refine kA ?_ _|refine kD ?_|refine kS ?_ (by simp)|refine kM ?_ (by simp))),(by simp only [hS,hA,hD,hM,World.size_setCell,World.size_drew,reduceIte,Option.map_some,Obj.put]<;>rfl)⟩ ?_
                        rintro w72 ⟨Kw72,cw72_G⟩
                        have n_c_G:K.c≠e71.heap.size:=Nat.ne_of_lt l_c
                        have n_G_c:e71.heap.size≠K.c:=Nat.ne_of_gt l_c
                        have n_mn_G:K.mn≠e71.heap.size:=Nat.ne_of_lt l_mn
                        have n_G_mn:e71.heap.size≠K.mn:=Nat.ne_of_gt l_mn
                        have n_kb_G:kb≠e71.heap.size:=Nat.ne_of_lt l_kb
                        have n_G_kb:e71.heap.size≠kb:=Nat.ne_of_gt l_kb
                        have n_R_G:w.heap.size≠e71.heap.size:=Nat.ne_of_lt l_R
                        have n_G_R:e71.heap.size≠w.heap.size:=Nat.ne_of_gt l_R
                        have n_X_G:e2.heap.size≠e71.heap.size:=Nat.ne_of_lt l_X
                        have n_G_X:e71.heap.size≠e2.heap.size:=Nat.ne_of_gt l_X
                        have o_G:w.heap.size≤e71.heap.size:=HKe71.out.size
                        have Rw72_R:=Lib.hid (Kw72.at Re71_R.out (by simp))
                        have Rw72_X:=Lib.hid (Kw72.at Re71_X.out (by simp))
                        have HKw72:=Lib.hid (HKe71.out.trans Kw72 (by simp))
                        have HKkbw72:=Lib.hid (HKkbe71.out.keep Kw72 (by simp))
                        have HO3w72:=Lib.hid (HO3e71.out.kp Kw72 (by simp))
                        have HO4w72:=Lib.hid (HO4e71.out.kp Kw72 (by simp))
                        have Rw72_G:=Lib.hid cw72_G
                        clear Kw72 cw72_G l_c l_R l_X l_mn l_kb Re71_R Re71_X HKe71 HKkbe71 HO3e71 HO4e71
                        refine app_flag rfl (.tmp 76) (.tmp 86) rfl rfl rfl HO4w72.out.fs Rw72_G.out HO4w72.out.u4 (HKw72.out.size) HLL.out ?_))
                    intro ve73 e73 fl hfl hk hown
                    have Re73_R:=Lib.hid (hk.at Rw72_R.out (fun h=>Nat.not_lt_of_le (HO4w72.out.d4 _ (hfl _ h)) u_R))
                    have Re73_X:=Lib.hid (hk.at Rw72_X.out (fun h=>Nat.not_lt_of_le (HO4w72.out.d4 _ (hfl _ h)) u_X))
                    have HKe73:=Lib.hid (HKw72.out.trans hk (fun x h=> .inr (Nat.le_trans hwU (HO4w72.out.d4 x (hfl x h)))))
                    have HKkbe73:=Lib.hid (HKkbw72.out.keep hk (fun h=>Nat.not_lt_of_le (HO4w72.out.d4 _ (hfl _ h)) u_kb))
                    have HO3e73:=Lib.hid (HO3w72.out.far hk (fun x h=>HO4w72.out.d4 x (hfl x h)) hcu)
                    have HO4e73:=Lib.hid (HO4w72.out.app HO3w72.out.us hk hown)
                    clear hown hk hfl Rw72_R Rw72_X HKw72 HKkbw72 HO3w72 HO4w72
                    have l_c:=h_lt (HC0.out.kp0 HKe73.out).row
                    have l_R:=h_lt Re73_R.out
                    have l_X:=h_lt Re73_X.out
                    have l_mn:=(HC0.out.kp0 HKe73.out).lt.2.2.2
                    have l_kb:=HKkbe73.out.lt
                    go_wp2_with fail
                    go_roundg f2
                    case measure=>omega
                    case rel=>
                      exact ⟨i+1,by first|rfl|(simp;done)|(simp;omega),by omega,by omega,a4++ [false],rest5,_,hrest,by simpa using ha4,by simp [HAL.out],HO4e73.out,HO3e73.out,HKkbe73.out,HKe73.out,Re73_R.out,Re73_X.out⟩
              · have hie:i=fu.params.length:=by omega
                rw [hie,List.drop_length,parsF] at hrest
                obtain rfl: []=rest4:=by simpa using hrest
                rw [List.append_nil] at ha4
                subst ha4
                obtain ⟨la,lc,rfl,-⟩:=HO4wr.out.fs.slice
                clear hrest hie
                have l_c:=h_lt (HC0.out.kp0 HKwr.out).row
                have l_R:=h_lt RRwr.out
                obtain ⟨l_X,xX_0,xX_1,xX_2,yX_0,yX_1,yX_2⟩:=cf3 RXwr.out
                have l_mn:=(HC0.out.kp0 HKwr.out).lt.2.2.2
                have l_kb:=HKBwr.out.lt
                go_wp2_with (
                  at_builtin
                  go_loud (
                    refine list_at (fun W=>Keeps [] wr W∧W.heap[wr.heap.size]? =some (.cells #[.slice la a4.length lc] 44 (0,0))) ⟨(by with_reducible repeat (first|exact k0 _ _|refine kA ?_ _|refine kD ?_|refine kS ?_ (by simp)|refine kM ?_ (by simp))),(by simp only [hS,hA,hD,hM,World.size_setCell,World.size_drew,reduceIte,Option.map_some,Obj.put]<;>rfl)⟩ ?_
                    rintro w71 ⟨Kw71,cw71_G⟩
                    have n_c_G:K.c≠wr.heap.size:=Nat.ne_of_lt l_c
                    have n_G_c:wr.heap.size≠K.c:=Nat.ne_of_gt l_c
                    have n_mn_G:K.mn≠wr.heap.size:=Nat.ne_of_lt l_mn
                    have n_G_mn:wr.heap.size≠K.mn:=Nat.ne_of_gt l_mn
                    have n_kb_G:kb≠wr.heap.size:=Nat.ne_of_lt l_kb
                    have n_G_kb:wr.heap.size≠kb:=Nat.ne_of_gt l_kb
                    have n_R_G:w.heap.size≠wr.heap.size:=Nat.ne_of_lt l_R
                    have n_G_R:wr.heap.size≠w.heap.size:=Nat.ne_of_gt l_R
                    have n_X_G:e2.heap.size≠wr.heap.size:=Nat.ne_of_lt l_X
                    have n_G_X:wr.heap.size≠e2.heap.size:=Nat.ne_of_gt l_X
                    have o_G:w.heap.size≤wr.heap.size:=HKwr.out.size
                    have Rw71_R:=Lib.hid (Kw71.at RRwr.out (by simp))
                    have Rw71_X:=Lib.hid (Kw71.at RXwr.out (by simp))
                    have HKw71:=Lib.hid (HKwr.out.trans Kw71 (by simp))
                    have HKkbw71:=Lib.hid (HKBwr.out.keep Kw71 (by simp))
                    have HO3w71:=Lib.hid (HO3wr.out.kp Kw71 (by simp))
                    have HO4w71:=Lib.hid (HO4wr.out.kp Kw71 (by simp))
                    have Rw71_G:=Lib.hid cw71_G
                    clear Kw71 cw71_G l_c l_R l_X xX_0 xX_1 xX_2 yX_0 yX_1 yX_2 l_mn l_kb RRwr RXwr HKwr HKBwr HO3wr HO4wr
                    refine app_flags rfl (.tmp 90) (.tmp 92) rfl rfl rfl HO3w71.out.fs Rw71_G.out rfl (x:=a4) (S:=T4) ((sliceR_of_own boolL HO4w71.out.fs)) (fun g h4 h3=>Nat.not_lt_of_le (HO4w71.out.d4 g h4) (HO3w71.out.u3 g h3)) HO4w71.out.u4 (fun g h3=>Nat.lt_of_lt_of_le (HO3w71.out.u3 g h3) HO3w71.out.us) (HKw71.out.size) (by rw [HACL.out];omega) ?_))
                intro ve72 e72 fl hfl hk hown
                have Re72_R:=Lib.hid (hk.at Rw71_R.out (fun h=>Nat.not_lt_of_le (HO3w71.out.d3 _ (hfl _ h)) c_R))
                have Re72_X:=Lib.hid (hk.at Rw71_X.out (fun h=>Nat.not_lt_of_le (HO3w71.out.d3 _ (hfl _ h)) c_X))
                have HKe72:=Lib.hid (HKw71.out.trans hk (fun x h=> .inr (Nat.le_trans hwC (HO3w71.out.d3 x (hfl x h)))))
                have HKkbe72:=Lib.hid (HKkbw71.out.keep hk (fun h=>Nat.not_lt_of_le (HO3w71.out.d3 _ (hfl _ h)) c_kb))
                have HO3e72:=Lib.hid (HO3w71.out.app hcu hk hfl HO4w71.out.d4 HO4w71.out.u4 hown)
                obtain ⟨ka2,kc2,hva,-⟩:=hown.slice
                obtain ⟨ln,hln⟩:∃q,q=(acc++ [a4]).length:=⟨_,rfl⟩
                rw [←hln] at hva
                subst hva
                have HLN:=Lib.hid hln
                clear hown hln hk hfl Rw71_R Rw71_X HKw71 HKkbw71 HO3w71 HO4w71
                have l_c:=h_lt (HC0.out.kp0 HKe72.out).row
                have l_R:=h_lt Re72_R.out
                obtain ⟨l_X,xX_0,xX_1,xX_2,yX_0,yX_1,yX_2⟩:=cf3 Re72_X.out
                have l_mn:=(HC0.out.kp0 HKe72.out).lt.2.2.2
                have l_kb:=HKkbe72.out.lt
                go_wp2_with fail
                go_roundg f
                case measure=>omega
                case rel=>
                  refine inv_at (fun W=>Keeps [e2.heap.size] e72 W∧W.heap[e2.heap.size]? =some (.cells #[.slice sa (pickN st kf false p).length sc,.slice aa (pickN st kf true p).length ac,.slice ka2 ln kc2] 53 (0,0))) ⟨(by with_reducible repeat (first|exact k0 _ _|refine kA ?_ _|refine kD ?_|refine kS ?_ (by simp)|refine kM ?_ (by simp))),(by simp only [hS,hA,hD,hM,reduceIte,Option.map_some,Obj.put,Re72_X.out,Nat.ne_of_lt l_X,Nat.ne_of_gt l_X]<;>rfl)⟩ ?_
                  rintro w73 ⟨Kw73,cw73_X⟩
                  have Rw73_R:=Lib.hid (Kw73.at Re72_R.out (by simp [n_R_X]))
                  have HKw73:=Lib.hid (HKe72.out.trans Kw73 (by simp [o_X]))
                  have HKkbw73:=Lib.hid (HKkbe72.out.keep Kw73 (by simp [n_kb_X]))
                  have HO3w73:=Lib.hid (HO3e72.out.kp Kw73 (by simp [b_X]))
                  have Rw73_X:=Lib.hid cw73_X
                  clear Kw73 cw73_X l_c l_R l_X xX_0 xX_1 xX_2 yX_0 yX_1 yX_2 l_mn l_kb Re72_R HKe72 HKkbe72 HO3e72 Re72_X
                  have hln:=HLN.out
                  subst hln
                  exact ⟨k+1,by first|rfl|(simp;done)|(simp;omega),by omega,by omega,acc++ [a4],rest2,_,_,_,hrest0,by simpa using hacc,by simp [HACL.out],HO3w73.out,HKkbw73.out,HKw73.out,Rw73_R.out,Rw73_X.out⟩
        · have hke:k=K.g.funcs.length:=by omega
          rw [hke,List.drop_length,parsAll] at hrest
          obtain rfl: []=rest:=by simpa using hrest
          rw [List.append_nil] at hacc
          subst hacc
          have HDN:Hid (∀x,(it+1≤x∧x<C)→w.heap.size≤x):=Lib.hid fun x hx=>Nat.le_trans hwb hx.1
          have HDM:Hid (∀x,T3 x→w.heap.size≤x):=Lib.hid fun x hx=>Nat.le_trans hwb (Nat.le_trans HO3wf.out.bc (HO3wf.out.d3 x hx))
          clear hrest hke
          have l_c:=h_lt (HC0.out.kp0 HKwf.out).row
          obtain ⟨l_R,xR_0,xR_1,xR_2,yR_0,yR_1,yR_2⟩:=cf3 RRwf.out
          obtain ⟨l_X,xX_0,xX_1,xX_2,yX_0,yX_1,yX_2⟩:=cf3 RXwf.out
          have l_mn:=(HC0.out.kp0 HKwf.out).lt.2.2.2
          have l_kb:=HKBwf.out.lt
          go_wp2_with fail
          refine ret_at (v:= .agg #[.slice sa (pickN st kf false p).length sc,.slice aa (pickN st kf true p).length ac,.slice pa3 acc.length pc3]) (fun W=>Keeps [w.heap.size] wf W∧W.heap[w.heap.size]? =some (.cells #[.slice sa (pickN st kf false p).length sc,.slice aa (pickN st kf true p).length ac,.slice pa3 acc.length pc3] 53 (0,0))) ⟨(by with_reducible repeat (first|exact k0 _ _|refine kA ?_ _|refine kD ?_|refine kS ?_ (by simp)|refine kM ?_ (by simp))),(by simp only [hS,hA,hD,hM,reduceIte,Option.map_some,Obj.put,RRwf.out,Nat.ne_of_lt l_R,Nat.ne_of_gt l_R]<;>rfl)⟩ (fun w51 hW=> ?_) rfl (fun w51 hW=> ?_)
          · obtain ⟨Kw51,cw51_R⟩:=hW
            have q0:=cell_of_heap cw51_R 0
            have q1:=cell_of_heap cw51_R 1
            have q2:=cell_of_heap cw51_R 2
            simp at q0 q1 q2
            simp [results,Tryz.results31,go_sem,q0,q1,q2]
          · obtain ⟨Kw51,cw51_R⟩:=hW
            have Rw51_X:=Lib.hid (Kw51.at RXwf.out (by simp [n_X_R]))
            have HKw51:=Lib.hid (HKwf.out.trans Kw51 (by simp [o_R]))
            have HKkbw51:=Lib.hid (HKBwf.out.keep Kw51 (by simp [n_kb_R]))
            have HO3w51:=Lib.hid (HO3wf.out.kp Kw51 (by simp [b_R]))
            have Rw51_R:=Lib.hid cw51_R
            clear Kw51 cw51_R l_c l_R xR_0 xR_1 xR_2 yR_0 yR_1 yR_2 l_X xX_0 xX_1 xX_2 yX_0 yX_1 yX_2 l_mn l_kb RXwf HKwf HKBwf HO3wf RRwf
            exact ⟨_,rfl,⟨sa,sc,aa,ac,pa3,pc3,by rw [HLES.out,HLEA.out],by rw [←HLES.out];exact HO3w51.out.sc.to strL HDN.out,by rw [←HLEA.out];exact HO3w51.out.ar.to strL HDN.out,(sliceR_of_own flagsL HO3w51.out.fs).to flagsL HDM.out⟩,HKw51.out⟩
    · have hent :=hrn.entry
      have HKBwn:=Lib.hid (HKBwo.out.keep hkn (by simp [n_kb_it]));have HKwn:=Lib.hid (HKwo.out.trans hkn (by simp;omega));have HRwn:=Lib.hid hrn;have HOwn:=Lib.hid (HOwo.out.kp hkn (by simp));have RRwn:=Lib.hid (hkn.at RRwo.out (by simp [n_R_it]));have RXwn:=Lib.hid (hkn.at RXwo.out (by simp [n_X_it]))
      have HRO1:=HRO.out t ht
      clear hrs hrn hkn hszn HKBwo HKwo HOwo RRwo RXwo hplen
      cases gk with
      |zero=>omega
      | succ m=>
        by_cases h0:t.1=0
        · have d0 :decide (0<t.1)=false:=by simp [h0]
          have d1:¬(0:Int)<(t.1:Int):=by omega
          cases hsp:specialF t.2 with
          | true=>
            have hgf:globG t=false:=by unfold globG;rw [hsp];simp
            have HPS:Hid (pickN st kf false (p++ [t])=pickN st kf false p):=Lib.hid (pickN_no (.inl hgf) p)
            have HPA:Hid (pickN st kf true (p++ [t])=pickN st kf true p):=Lib.hid (pickN_no (.inl hgf) p)
            clear HRO1 h0 hgf
            have l_c:=h_lt (HC0.out.kp0 HKwn.out).row
            have l_R:=h_lt RRwn.out
            have l_X:=h_lt RXwn.out
            have l_mn:=(HC0.out.kp0 HKwn.out).lt.2.2.2
            have l_kb:=HKBwn.out.lt
            have l_it:=HRwn.out.lt.1
            go_wp2_with fail
            refine calls_at (fun W=>Keeps [] wn W∧W.heap[wn.heap.size]? =some (.cells #[.int .i64 t.1,.string t.2] 137 (0,0))) ⟨(by with_reducible repeat (first|exact k0 _ _|refine kA ?_ _|refine kD ?_|refine kS ?_ (by simp)|refine kM ?_ (by simp))),(by simp only [hS,hA,hD,hM,World.size_setCell,World.size_drew,reduceIte,Option.map_some,Obj.put]<;>rfl)⟩ ?_
            rintro w51 ⟨Kw51,cw51_Q⟩
            have n_c_Q:K.c≠wn.heap.size:=Nat.ne_of_lt l_c
            have n_Q_c:wn.heap.size≠K.c:=Nat.ne_of_gt l_c
            have n_mn_Q:K.mn≠wn.heap.size:=Nat.ne_of_lt l_mn
            have n_Q_mn:wn.heap.size≠K.mn:=Nat.ne_of_gt l_mn
            have n_kb_Q:kb≠wn.heap.size:=Nat.ne_of_lt l_kb
            have n_Q_kb:wn.heap.size≠kb:=Nat.ne_of_gt l_kb
            have n_R_Q:w.heap.size≠wn.heap.size:=Nat.ne_of_lt l_R
            have n_Q_R:wn.heap.size≠w.heap.size:=Nat.ne_of_gt l_R
            have n_X_Q:e2.heap.size≠wn.heap.size:=Nat.ne_of_lt l_X
            have n_Q_X:wn.heap.size≠e2.heap.size:=Nat.ne_of_gt l_X
            have n_it_Q:it≠wn.heap.size:=Nat.ne_of_lt l_it
            have n_Q_it:wn.heap.size≠it:=Nat.ne_of_gt l_it
            have o_Q:w.heap.size≤wn.heap.size:=HKwn.out.size
            have Rw51_R:=Lib.hid (Kw51.at RRwn.out (by simp))
            have Rw51_X:=Lib.hid (Kw51.at RXwn.out (by simp))
            have HKw51:=Lib.hid (HKwn.out.trans Kw51 (by simp))
            have HKkbw51:=Lib.hid (HKBwn.out.keep Kw51 (by simp))
            have HOw51:=Lib.hid (HOwn.out.kp Kw51 (by simp))
            have HRw51:=Lib.hid (HRwn.out.keep Kw51 (by simp) (by simp))
            have Rw51_Q:=Lib.hid cw51_Q
            clear Kw51 cw51_Q l_c l_R l_X l_mn l_kb l_it RRwn RXwn HKwn HKBwn HOwn HRwn
            refine (special_any t.2 _).mono ?_
            rintro r w' ⟨rfl,hw'⟩
            rw [hw']
            clear hw'
            have l_c:=h_lt (HC0.out.kp0 HKw51.out).row
            have l_R:=h_lt Rw51_R.out
            have l_X:=h_lt Rw51_X.out
            have l_Q:=h_lt Rw51_Q.out
            have l_mn:=(HC0.out.kp0 HKw51.out).lt.2.2.2
            have l_kb:=HKkbw51.out.lt
            have l_it:=HRw51.out.lt.1
            go_wp2_with fail
            go_roundg m
            case measure=>omega
            case rel=>
              exact ⟨p++ [t],n2,_,_,T1,T2,HRw51.out,by omega,by rw [HPS.out,HPA.out];exact HOw51.out,HKkbw51.out,HKw51.out,Rw51_R.out,Rw51_X.out⟩
          | false =>
            have hgt:globG t=true:=by unfold globG;rw [hsp,h0];simp
            obtain ⟨r,hrr⟩:∃r,r=rootD st t:=⟨_,rfl⟩
            have HRT:Hid (rootN st t=some r):=Lib.hid (by rw [hrr];exact HRO1 hgt)
            obtain ⟨kn,hkn⟩:∃x,x=kof r kf:=⟨_,rfl⟩
            have HKN:=Lib.hid hkn
            by_cases h2:kn=2
            · have hak:arrK st kf t=true:=by unfold arrK;rw [←hrr,←hkn,h2];rfl
              have HPS:Hid (pickN st kf false (p++ [t])=pickN st kf false p):=Lib.hid (pickN_no (.inr hak) p)
              have HPA:Hid (pickN st kf true (p++ [t])=pickN st kf true p++ [t.2]):=Lib.hid (pickN_yes hgt hak p)
              have HLL:=HLA
              have d2:((kn:Int)==2)=true:=by simp [h2]
              have d3:(kn==2)=true:=by simp [h2]
              clear HRO1 h0 hgt hrr hkn hak h2
              have l_c:=h_lt (HC0.out.kp0 HKwn.out).row
              have l_R:=h_lt RRwn.out
              have l_X:=h_lt RXwn.out
              have l_mn:=(HC0.out.kp0 HKwn.out).lt.2.2.2
              have l_kb:=HKBwn.out.lt
              have l_it:=HRwn.out.lt.1
              go_wp2_with fail
              refine calls_at (fun W=>Keeps [] wn W∧W.heap[wn.heap.size]? =some (.cells #[.int .i64 t.1,.string t.2] 137 (0,0))) ⟨(by with_reducible repeat (first|exact k0 _ _|refine kA ?_ _|refine kD ?_|refine kS ?_ (by simp)|refine kM ?_ (by simp))),(by simp only [hS,hA,hD,hM,World.size_setCell,World.size_drew,reduceIte,Option.map_some,Obj.put]<;>rfl)⟩ ?_
              rintro w51 ⟨Kw51,cw51_Q⟩
              have n_c_Q:K.c≠wn.heap.size:=Nat.ne_of_lt l_c
              have n_Q_c:wn.heap.size≠K.c:=Nat.ne_of_gt l_c
              have n_mn_Q:K.mn≠wn.heap.size:=Nat.ne_of_lt l_mn
              have n_Q_mn:wn.heap.size≠K.mn:=Nat.ne_of_gt l_mn
              have n_kb_Q:kb≠wn.heap.size:=Nat.ne_of_lt l_kb
              have n_Q_kb:wn.heap.size≠kb:=Nat.ne_of_gt l_kb
              have n_R_Q:w.heap.size≠wn.heap.size:=Nat.ne_of_lt l_R
              have n_Q_R:wn.heap.size≠w.heap.size:=Nat.ne_of_gt l_R
              have n_X_Q:e2.heap.size≠wn.heap.size:=Nat.ne_of_lt l_X
              have n_Q_X:wn.heap.size≠e2.heap.size:=Nat.ne_of_gt l_X
              have n_it_Q:it≠wn.heap.size:=Nat.ne_of_lt l_it
              have n_Q_it:wn.heap.size≠it:=Nat.ne_of_gt l_it
              have o_Q:w.heap.size≤wn.heap.size:=HKwn.out.size
              have Rw51_R:=Lib.hid (Kw51.at RRwn.out (by simp))
              have Rw51_X:=Lib.hid (Kw51.at RXwn.out (by simp))
              have HKw51:=Lib.hid (HKwn.out.trans Kw51 (by simp))
              have HKkbw51:=Lib.hid (HKBwn.out.keep Kw51 (by simp))
              have HOw51:=Lib.hid (HOwn.out.kp Kw51 (by simp))
              have HRw51:=Lib.hid (HRwn.out.keep Kw51 (by simp) (by simp))
              have Rw51_Q:=Lib.hid cw51_Q
              clear Kw51 cw51_Q l_c l_R l_X l_mn l_kb l_it RRwn RXwn HKwn HKBwn HOwn HRwn
              refine (special_any t.2 _).mono ?_
              rintro r w' ⟨rfl,hw'⟩
              rw [hw']
              clear hw'
              have l_c:=h_lt (HC0.out.kp0 HKw51.out).row
              have l_R:=h_lt Rw51_R.out
              have l_X:=h_lt Rw51_X.out
              obtain ⟨l_Q,xQ_0,xQ_1,yQ_0,yQ_1⟩:=cf2 Rw51_Q.out
              have l_mn:=(HC0.out.kp0 HKw51.out).lt.2.2.2
              have l_kb:=HKkbw51.out.lt
              have l_it:=HRw51.out.lt.1
              go_wp2_with fail
              clear l_c l_R l_X l_Q xQ_0 xQ_1 yQ_0 yQ_1 l_mn l_kb l_it
              refine (root_any (HC0.out.kp0 HKw51.out) HRT.out).mono ?_
              rintro r e52 ⟨rfl,hk⟩
              have Re52_R:=Lib.hid (hk.at Rw51_R.out (by simp))
              have Re52_X:=Lib.hid (hk.at Rw51_X.out (by simp))
              have Re52_Q:=Lib.hid (hk.at Rw51_Q.out (by simp))
              have HKe52:=Lib.hid (HKw51.out.trans hk (by simp))
              have HKkbe52:=Lib.hid (HKkbw51.out.keep hk (by simp))
              have HOe52:=Lib.hid (HOw51.out.kp hk (by simp))
              have HRe52:=Lib.hid (HRw51.out.keep hk (by simp) (by simp))
              clear hk Rw51_R Rw51_X Rw51_Q HKw51 HKkbw51 HOw51 HRw51
              have l_c:=h_lt (HC0.out.kp0 HKe52.out).row
              have l_R:=h_lt Re52_R.out
              obtain ⟨l_X,xX_0,xX_1,xX_2,yX_0,yX_1,yX_2⟩:=cf3 Re52_X.out
              obtain ⟨l_Q,xQ_0,xQ_1,yQ_0,yQ_1⟩:=cf2 Re52_Q.out
              have l_mn:=(HC0.out.kp0 HKe52.out).lt.2.2.2
              have l_kb:=HKkbe52.out.lt
              have l_it:=HRe52.out.lt.1
              have hlk2:=HKkbe52.out.look r (n:=kn) HKN.out
              go_wp2_with (
                at_builtin
                go_loud (
                  refine list_at (fun W=>Keeps [] e52 W∧W.heap[e52.heap.size]? =some (.cells #[.string t.2] 9 (0,0))) ⟨(by with_reducible repeat (first|exact k0 _ _|refine kA ?_ _|refine kD ?_|refine kS ?_ (by simp)|refine kM ?_ (by simp))),(by simp only [hS,hA,hD,hM,World.size_setCell,World.size_drew,reduceIte,Option.map_some,Obj.put]<;>rfl)⟩ ?_
                  rintro w53 ⟨Kw53,cw53_G⟩
                  have n_c_G:K.c≠e52.heap.size:=Nat.ne_of_lt l_c
                  have n_G_c:e52.heap.size≠K.c:=Nat.ne_of_gt l_c
                  have n_mn_G:K.mn≠e52.heap.size:=Nat.ne_of_lt l_mn
                  have n_G_mn:e52.heap.size≠K.mn:=Nat.ne_of_gt l_mn
                  have n_kb_G:kb≠e52.heap.size:=Nat.ne_of_lt l_kb
                  have n_G_kb:e52.heap.size≠kb:=Nat.ne_of_gt l_kb
                  have n_R_G:w.heap.size≠e52.heap.size:=Nat.ne_of_lt l_R
                  have n_G_R:e52.heap.size≠w.heap.size:=Nat.ne_of_gt l_R
                  have n_X_G:e2.heap.size≠e52.heap.size:=Nat.ne_of_lt l_X
                  have n_G_X:e52.heap.size≠e2.heap.size:=Nat.ne_of_gt l_X
                  have n_it_G:it≠e52.heap.size:=Nat.ne_of_lt l_it
                  have n_G_it:e52.heap.size≠it:=Nat.ne_of_gt l_it
                  have n_Q_G:wn.heap.size≠e52.heap.size:=Nat.ne_of_lt l_Q
                  have n_G_Q:e52.heap.size≠wn.heap.size:=Nat.ne_of_gt l_Q
                  have o_G:w.heap.size≤e52.heap.size:=HKe52.out.size
                  have Rw53_R:=Lib.hid (Kw53.at Re52_R.out (by simp))
                  have Rw53_X:=Lib.hid (Kw53.at Re52_X.out (by simp))
                  have Rw53_Q:=Lib.hid (Kw53.at Re52_Q.out (by simp))
                  have HKw53:=Lib.hid (HKe52.out.trans Kw53 (by simp))
                  have HKkbw53:=Lib.hid (HKkbe52.out.keep Kw53 (by simp))
                  have HOw53:=Lib.hid (HOe52.out.kp Kw53 (by simp))
                  have HRw53:=Lib.hid (HRe52.out.keep Kw53 (by simp) (by simp))
                  have Rw53_G:=Lib.hid cw53_G
                  clear Kw53 cw53_G l_c l_R l_X xX_0 xX_1 xX_2 yX_0 yX_1 yX_2 l_Q xQ_0 xQ_1 yQ_0 yQ_1 l_mn l_kb l_it Re52_R Re52_X Re52_Q HKe52 HKkbe52 HOe52 HRe52
                  refine app_str rfl (.tmp 46) (.tmp 49) rfl rfl rfl HOw53.out.ar Rw53_G.out HOw53.out.u2 (HKw53.out.size) HLL.out ?_))
              intro ve54 e54 fl hfl hk hown
              have Re54_R:=Lib.hid (hk.at Rw53_R.out (fun h=>Nat.not_lt_of_le (HOw53.out.d2 _ (hfl _ h)) b_R))
              have Re54_X:=Lib.hid (hk.at Rw53_X.out (fun h=>Nat.not_lt_of_le (HOw53.out.d2 _ (hfl _ h)) b_X))
              have HKe54:=Lib.hid (HKw53.out.trans hk (fun x h=> .inr (Nat.le_trans hwb (HOw53.out.d2 x (hfl x h)))))
              have HKkbe54:=Lib.hid (HKkbw53.out.keep hk (fun h=>Nat.not_lt_of_le (HOw53.out.d2 _ (hfl _ h)) b_kb))
              have HRe54:=Lib.hid (HRw53.out.keep hk (fun h=>Nat.not_lt_of_le (HOw53.out.d2 _ (hfl _ h)) b_mn) (fun h=>Nat.not_lt_of_le (HOw53.out.d2 _ (hfl _ h)) b_it))
              have hbl:it+1≤w53.heap.size:=HRw53.out.lt.1
              have HOe54:=Lib.hid (HOw53.out.app2 (hbl:it+1≤w53.heap.size) hk hfl hown)
              obtain ⟨ka2,kc2,hva,-⟩:=hown.slice
              obtain ⟨ln,hln⟩:∃k,k=(pickN st kf true p++ [t.2]).length:=⟨_,rfl⟩
              rw [←hln] at hva
              subst hva
              have HLN:=Lib.hid hln
              clear hown hln hk hfl Rw53_R Rw53_X HKw53 HKkbw53 HRw53 HOw53
              have l_c:=h_lt (HC0.out.kp0 HKe54.out).row
              have l_R:=h_lt Re54_R.out
              obtain ⟨l_X,xX_0,xX_1,xX_2,yX_0,yX_1,yX_2⟩:=cf3 Re54_X.out
              have l_mn:=(HC0.out.kp0 HKe54.out).lt.2.2.2
              have l_kb:=HKkbe54.out.lt
              have l_it:=HRe54.out.lt.1
              go_wp2_with fail
              go_roundg m
              case measure=>omega
              case rel=>
                refine inv_at (fun W=>Keeps [e2.heap.size] e54 W∧W.heap[e2.heap.size]? =some (.cells #[.slice sa (pickN st kf false p).length sc,.slice ka2 ln kc2,.slice none 0 0] 53 (0,0))) ⟨(by with_reducible repeat (first|exact k0 _ _|refine kA ?_ _|refine kD ?_|refine kS ?_ (by simp)|refine kM ?_ (by simp))),(by simp only [hS,hA,hD,hM,reduceIte,Option.map_some,Obj.put,Re54_X.out,Nat.ne_of_lt l_X,Nat.ne_of_gt l_X]<;>rfl)⟩ ?_
                rintro w55 ⟨Kw55,cw55_X⟩
                have Rw55_R:=Lib.hid (Kw55.at Re54_R.out (by simp [n_R_X]))
                have HKw55:=Lib.hid (HKe54.out.trans Kw55 (by simp [o_X]))
                have HKkbw55:=Lib.hid (HKkbe54.out.keep Kw55 (by simp [n_kb_X]))
                have HOw55:=Lib.hid (HOe54.out.kp Kw55 (by simp [b_X]))
                have HRw55:=Lib.hid (HRe54.out.keep Kw55 (by simp [n_mn_X]) (by simp [n_it_X]))
                have Rw55_X:=Lib.hid cw55_X
                clear Kw55 cw55_X l_c l_R l_X xX_0 xX_1 xX_2 yX_0 yX_1 yX_2 l_mn l_kb l_it Re54_R HKe54 HKkbe54 HOe54 HRe54 Re54_X
                have hln:=HLN.out
                subst hln
                exact ⟨p++ [t],n2,_,_,_,_,HRw55.out,by omega,by rw [HPS.out,HPA.out];exact HOw55.out,HKkbw55.out,HKw55.out,Rw55_R.out,Rw55_X.out⟩
            · have hak:arrK st kf t=false:=by unfold arrK;rw [←hrr,←hkn];simp [h2]
              have HPS:Hid (pickN st kf false (p++ [t])=pickN st kf false p++ [t.2]):=Lib.hid (pickN_yes hgt hak p)
              have HPA:Hid (pickN st kf true (p++ [t])=pickN st kf true p):=Lib.hid (pickN_no (.inr hak) p)
              have HLL:=HLS
              have d2:((kn:Int)==2)=false:=by simp;omega
              have d3:(kn==2)=false:=by simp [h2]
              clear HRO1 h0 hgt hrr hkn hak h2
              have l_c:=h_lt (HC0.out.kp0 HKwn.out).row
              have l_R:=h_lt RRwn.out
              have l_X:=h_lt RXwn.out
              have l_mn:=(HC0.out.kp0 HKwn.out).lt.2.2.2
              have l_kb:=HKBwn.out.lt
              have l_it:=HRwn.out.lt.1
              go_wp2_with fail
              refine calls_at (fun W=>Keeps [] wn W∧W.heap[wn.heap.size]? =some (.cells #[.int .i64 t.1,.string t.2] 137 (0,0))) ⟨(by with_reducible repeat (first|exact k0 _ _|refine kA ?_ _|refine kD ?_|refine kS ?_ (by simp)|refine kM ?_ (by simp))),(by simp only [hS,hA,hD,hM,World.size_setCell,World.size_drew,reduceIte,Option.map_some,Obj.put]<;>rfl)⟩ ?_
              rintro w51 ⟨Kw51,cw51_Q⟩
              have n_c_Q:K.c≠wn.heap.size:=Nat.ne_of_lt l_c
              have n_Q_c:wn.heap.size≠K.c:=Nat.ne_of_gt l_c
              have n_mn_Q:K.mn≠wn.heap.size:=Nat.ne_of_lt l_mn
              have n_Q_mn:wn.heap.size≠K.mn:=Nat.ne_of_gt l_mn
              have n_kb_Q:kb≠wn.heap.size:=Nat.ne_of_lt l_kb
              have n_Q_kb:wn.heap.size≠kb:=Nat.ne_of_gt l_kb
              have n_R_Q:w.heap.size≠wn.heap.size:=Nat.ne_of_lt l_R
              have n_Q_R:wn.heap.size≠w.heap.size:=Nat.ne_of_gt l_R
              have n_X_Q:e2.heap.size≠wn.heap.size:=Nat.ne_of_lt l_X
              have n_Q_X:wn.heap.size≠e2.heap.size:=Nat.ne_of_gt l_X
              have n_it_Q:it≠wn.heap.size:=Nat.ne_of_lt l_it
              have n_Q_it:wn.heap.size≠it:=Nat.ne_of_gt l_it
              have o_Q:w.heap.size≤wn.heap.size:=HKwn.out.size
              have Rw51_R:=Lib.hid (Kw51.at RRwn.out (by simp))
              have Rw51_X:=Lib.hid (Kw51.at RXwn.out (by simp))
              have HKw51:=Lib.hid (HKwn.out.trans Kw51 (by simp))
              have HKkbw51:=Lib.hid (HKBwn.out.keep Kw51 (by simp))
              have HOw51:=Lib.hid (HOwn.out.kp Kw51 (by simp))
              have HRw51:=Lib.hid (HRwn.out.keep Kw51 (by simp) (by simp))
              have Rw51_Q:=Lib.hid cw51_Q
              clear Kw51 cw51_Q l_c l_R l_X l_mn l_kb l_it RRwn RXwn HKwn HKBwn HOwn HRwn
              refine (special_any t.2 _).mono ?_
              rintro r w' ⟨rfl,hw'⟩
              rw [hw']
              clear hw'
              have l_c:=h_lt (HC0.out.kp0 HKw51.out).row
              have l_R:=h_lt Rw51_R.out
              have l_X:=h_lt Rw51_X.out
              obtain ⟨l_Q,xQ_0,xQ_1,yQ_0,yQ_1⟩:=cf2 Rw51_Q.out
              have l_mn:=(HC0.out.kp0 HKw51.out).lt.2.2.2
              have l_kb:=HKkbw51.out.lt
              have l_it:=HRw51.out.lt.1
              go_wp2_with fail
              clear l_c l_R l_X l_Q xQ_0 xQ_1 yQ_0 yQ_1 l_mn l_kb l_it
              refine (root_any (HC0.out.kp0 HKw51.out) HRT.out).mono ?_
              rintro r e52 ⟨rfl,hk⟩
              have Re52_R:=Lib.hid (hk.at Rw51_R.out (by simp))
              have Re52_X:=Lib.hid (hk.at Rw51_X.out (by simp))
              have Re52_Q:=Lib.hid (hk.at Rw51_Q.out (by simp))
              have HKe52:=Lib.hid (HKw51.out.trans hk (by simp))
              have HKkbe52:=Lib.hid (HKkbw51.out.keep hk (by simp))
              have HOe52:=Lib.hid (HOw51.out.kp hk (by simp))
              have HRe52:=Lib.hid (HRw51.out.keep hk (by simp) (by simp))
              clear hk Rw51_R Rw51_X Rw51_Q HKw51 HKkbw51 HOw51 HRw51
              have l_c:=h_lt (HC0.out.kp0 HKe52.out).row
              have l_R:=h_lt Re52_R.out
              obtain ⟨l_X,xX_0,xX_1,xX_2,yX_0,yX_1,yX_2⟩:=cf3 Re52_X.out
              obtain ⟨l_Q,xQ_0,xQ_1,yQ_0,yQ_1⟩:=cf2 Re52_Q.out
              have l_mn:=(HC0.out.kp0 HKe52.out).lt.2.2.2
              have l_kb:=HKkbe52.out.lt
              have l_it:=HRe52.out.lt.1
              have hlk2:=HKkbe52.out.look r (n:=kn) HKN.out
              go_wp2_with (
                at_builtin
                go_loud (
                  refine list_at (fun W=>Keeps [] e52 W∧W.heap[e52.heap.size]? =some (.cells #[.string t.2] 9 (0,0))) ⟨(by with_reducible repeat (first|exact k0 _ _|refine kA ?_ _|refine kD ?_|refine kS ?_ (by simp)|refine kM ?_ (by simp))),(by simp only [hS,hA,hD,hM,World.size_setCell,World.size_drew,reduceIte,Option.map_some,Obj.put]<;>rfl)⟩ ?_
                  rintro w53 ⟨Kw53,cw53_G⟩
                  have n_c_G:K.c≠e52.heap.size:=Nat.ne_of_lt l_c
                  have n_G_c:e52.heap.size≠K.c:=Nat.ne_of_gt l_c
                  have n_mn_G:K.mn≠e52.heap.size:=Nat.ne_of_lt l_mn
                  have n_G_mn:e52.heap.size≠K.mn:=Nat.ne_of_gt l_mn
                  have n_kb_G:kb≠e52.heap.size:=Nat.ne_of_lt l_kb
                  have n_G_kb:e52.heap.size≠kb:=Nat.ne_of_gt l_kb
                  have n_R_G:w.heap.size≠e52.heap.size:=Nat.ne_of_lt l_R
                  have n_G_R:e52.heap.size≠w.heap.size:=Nat.ne_of_gt l_R
                  have n_X_G:e2.heap.size≠e52.heap.size:=Nat.ne_of_lt l_X
                  have n_G_X:e52.heap.size≠e2.heap.size:=Nat.ne_of_gt l_X
                  have n_it_G:it≠e52.heap.size:=Nat.ne_of_lt l_it
                  have n_G_it:e52.heap.size≠it:=Nat.ne_of_gt l_it
                  have n_Q_G:wn.heap.size≠e52.heap.size:=Nat.ne_of_lt l_Q
                  have n_G_Q:e52.heap.size≠wn.heap.size:=Nat.ne_of_gt l_Q
                  have o_G:w.heap.size≤e52.heap.size:=HKe52.out.size
                  have Rw53_R:=Lib.hid (Kw53.at Re52_R.out (by simp))
                  have Rw53_X:=Lib.hid (Kw53.at Re52_X.out (by simp))
                  have Rw53_Q:=Lib.hid (Kw53.at Re52_Q.out (by simp))
                  have HKw53:=Lib.hid (HKe52.out.trans Kw53 (by simp))
                  have HKkbw53:=Lib.hid (HKkbe52.out.keep Kw53 (by simp))
                  have HOw53:=Lib.hid (HOe52.out.kp Kw53 (by simp))
                  have HRw53:=Lib.hid (HRe52.out.keep Kw53 (by simp) (by simp))
                  have Rw53_G:=Lib.hid cw53_G
                  clear Kw53 cw53_G l_c l_R l_X xX_0 xX_1 xX_2 yX_0 yX_1 yX_2 l_Q xQ_0 xQ_1 yQ_0 yQ_1 l_mn l_kb l_it Re52_R Re52_X Re52_Q HKe52 HKkbe52 HOe52 HRe52
                  refine app_str rfl (.tmp 23) (.tmp 26) rfl rfl rfl HOw53.out.sc Rw53_G.out HOw53.out.u1 (HKw53.out.size) HLL.out ?_))
              intro ve54 e54 fl hfl hk hown
              have Re54_R:=Lib.hid (hk.at Rw53_R.out (fun h=>Nat.not_lt_of_le (HOw53.out.d1 _ (hfl _ h)) b_R))
              have Re54_X:=Lib.hid (hk.at Rw53_X.out (fun h=>Nat.not_lt_of_le (HOw53.out.d1 _ (hfl _ h)) b_X))
              have HKe54:=Lib.hid (HKw53.out.trans hk (fun x h=> .inr (Nat.le_trans hwb (HOw53.out.d1 x (hfl x h)))))
              have HKkbe54:=Lib.hid (HKkbw53.out.keep hk (fun h=>Nat.not_lt_of_le (HOw53.out.d1 _ (hfl _ h)) b_kb))
              have HRe54:=Lib.hid (HRw53.out.keep hk (fun h=>Nat.not_lt_of_le (HOw53.out.d1 _ (hfl _ h)) b_mn) (fun h=>Nat.not_lt_of_le (HOw53.out.d1 _ (hfl _ h)) b_it))
              have hbl:it+1≤w53.heap.size:=HRw53.out.lt.1
              have HOe54:=Lib.hid (HOw53.out.app1 (hbl:it+1≤w53.heap.size) hk hfl hown)
              obtain ⟨ka2,kc2,hva,-⟩:=hown.slice
              obtain ⟨ln,hln⟩:∃k,k=(pickN st kf false p++ [t.2]).length:=⟨_,rfl⟩
              rw [←hln] at hva
              subst hva
              have HLN:=Lib.hid hln
              clear hown hln hk hfl Rw53_R Rw53_X HKw53 HKkbw53 HRw53 HOw53
              have l_c:=h_lt (HC0.out.kp0 HKe54.out).row
              have l_R:=h_lt Re54_R.out
              obtain ⟨l_X,xX_0,xX_1,xX_2,yX_0,yX_1,yX_2⟩:=cf3 Re54_X.out
              have l_mn:=(HC0.out.kp0 HKe54.out).lt.2.2.2
              have l_kb:=HKkbe54.out.lt
              have l_it:=HRe54.out.lt.1
              go_wp2_with fail
              go_roundg m
              case measure=>omega
              case rel=>
                refine inv_at (fun W=>Keeps [e2.heap.size] e54 W∧W.heap[e2.heap.size]? =some (.cells #[.slice ka2 ln kc2,.slice aa (pickN st kf true p).length ac,.slice none 0 0] 53 (0,0))) ⟨(by with_reducible repeat (first|exact k0 _ _|refine kA ?_ _|refine kD ?_|refine kS ?_ (by simp)|refine kM ?_ (by simp))),(by simp only [hS,hA,hD,hM,reduceIte,Option.map_some,Obj.put,Re54_X.out,Nat.ne_of_lt l_X,Nat.ne_of_gt l_X]<;>rfl)⟩ ?_
                rintro w55 ⟨Kw55,cw55_X⟩
                have Rw55_R:=Lib.hid (Kw55.at Re54_R.out (by simp [n_R_X]))
                have HKw55:=Lib.hid (HKe54.out.trans Kw55 (by simp [o_X]))
                have HKkbw55:=Lib.hid (HKkbe54.out.keep Kw55 (by simp [n_kb_X]))
                have HOw55:=Lib.hid (HOe54.out.kp Kw55 (by simp [b_X]))
                have HRw55:=Lib.hid (HRe54.out.keep Kw55 (by simp [n_mn_X]) (by simp [n_it_X]))
                have Rw55_X:=Lib.hid cw55_X
                clear Kw55 cw55_X l_c l_R l_X xX_0 xX_1 xX_2 yX_0 yX_1 yX_2 l_mn l_kb l_it Re54_R HKe54 HKkbe54 HOe54 HRe54 Re54_X
                have hln:=HLN.out
                subst hln
                exact ⟨p++ [t],n2,_,_,_,_,HRw55.out,by omega,by rw [HPS.out,HPA.out];exact HOw55.out,HKkbw55.out,HKw55.out,Rw55_R.out,Rw55_X.out⟩
        · have d0:decide (0<t.1)=true:=by simp;omega
          have d1:(0:Int)<(t.1:Int):=by omega
          have hgf:globG t=false:=by unfold globG;simp;omega
          have HPS:Hid (pickN st kf false (p++ [t])=pickN st kf false p):=Lib.hid (pickN_no (.inl hgf) p)
          have HPA:Hid (pickN st kf true (p++ [t])=pickN st kf true p):=Lib.hid (pickN_no (.inl hgf) p)
          clear HRO1 h0 hgf
          have l_c:=h_lt (HC0.out.kp0 HKwn.out).row
          have l_R:=h_lt RRwn.out
          have l_X:=h_lt RXwn.out
          have l_mn:=(HC0.out.kp0 HKwn.out).lt.2.2.2
          have l_kb:=HKBwn.out.lt
          have l_it:=HRwn.out.lt.1
          go_wp2_with fail
          go_roundg m
          case measure=>omega
          case rel=>
            refine inv_at (fun W=>Keeps [] wn W∧W.heap[wn.heap.size]? =some (.cells #[.int .i64 t.1,.string t.2] 137 (0,0))) ⟨(by with_reducible repeat (first|exact k0 _ _|refine kA ?_ _|refine kD ?_|refine kS ?_ (by simp)|refine kM ?_ (by simp))),(by simp only [hS,hA,hD,hM,World.size_setCell,World.size_drew,reduceIte,Option.map_some,Obj.put]<;>rfl)⟩ ?_
            rintro w51 ⟨Kw51,cw51_Q⟩
            have n_c_Q:K.c≠wn.heap.size:=Nat.ne_of_lt l_c
            have n_Q_c:wn.heap.size≠K.c:=Nat.ne_of_gt l_c
            have n_mn_Q:K.mn≠wn.heap.size:=Nat.ne_of_lt l_mn
            have n_Q_mn:wn.heap.size≠K.mn:=Nat.ne_of_gt l_mn
            have n_kb_Q:kb≠wn.heap.size:=Nat.ne_of_lt l_kb
            have n_Q_kb:wn.heap.size≠kb:=Nat.ne_of_gt l_kb
            have n_R_Q:w.heap.size≠wn.heap.size:=Nat.ne_of_lt l_R
            have n_Q_R:wn.heap.size≠w.heap.size:=Nat.ne_of_gt l_R
            have n_X_Q:e2.heap.size≠wn.heap.size:=Nat.ne_of_lt l_X
            have n_Q_X:wn.heap.size≠e2.heap.size:=Nat.ne_of_gt l_X
            have n_it_Q:it≠wn.heap.size:=Nat.ne_of_lt l_it
            have n_Q_it:wn.heap.size≠it:=Nat.ne_of_gt l_it
            have o_Q:w.heap.size≤wn.heap.size:=HKwn.out.size
            have Rw51_R:=Lib.hid (Kw51.at RRwn.out (by simp))
            have Rw51_X:=Lib.hid (Kw51.at RXwn.out (by simp))
            have HKw51:=Lib.hid (HKwn.out.trans Kw51 (by simp))
            have HKkbw51:=Lib.hid (HKBwn.out.keep Kw51 (by simp))
            have HOw51:=Lib.hid (HOwn.out.kp Kw51 (by simp))
            have HRw51:=Lib.hid (HRwn.out.keep Kw51 (by simp) (by simp))
            have Rw51_Q:=Lib.hid cw51_Q
            clear Kw51 cw51_Q l_c l_R l_X l_mn l_kb l_it RRwn RXwn HKwn HKBwn HOwn HRwn
            exact ⟨p++ [t],n2,_,_,T1,T2,HRw51.out,by omega,by rw [HPS.out,HPA.out];exact HOw51.out,HKkbw51.out,HKw51.out,Rw51_R.out,Rw51_X.out⟩
end Go.Proofs.YteafcepaolofpaaGreatDoor
