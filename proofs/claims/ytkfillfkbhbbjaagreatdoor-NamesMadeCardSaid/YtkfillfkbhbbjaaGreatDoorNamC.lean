/- CK, DK, Rng, NamB, NamC. -/
import Derived.Test.YtkfillfkbhbbjaaGreatDoorNamA
import Derived.Test.YtkfillfkbhbbjaaGreatDoorPLf
import Derived.Maps.RangeRun
set_option maxRecDepth 100000
set_option maxHeartbeats 4000000
set_option linter.unusedSimpArgs false
set_option linter.unusedVariables false
namespace Go.Proofs.YtkfillfkbhbbjaaGreatDoor
open Go.RowKit
theorem qie{p:Prop}(h:p:=by
 obtain ⟨es,k,h1,h2⟩:=h.same;have hz:(zeroValue 101).run Tryz.prog W= .ok (.agg #[.int .i64 0,.string ⟨#[]⟩]) W:=by simp [go_sem]
 have:=Qj (P:=Tryz.prog) PC Tryz.underlying66 (w:=W) hz h1 (a,b);rw [Pq (a,b) h2,hr] at this;exact this):p:=h
/-! ### uses as elements -/
def VR(_:World)(_:Nat→Prop)(u:Kf)(c:List Value):Prop:=
 c= [.complex .f64 u.re u.im,.int .i64 u.of.1,.string u.of.2,.bool u.array,.int .i64 u.param.1,.string u.param.2,.bool u.kid,.bool u.bad]
theorem Ui:Ho VR 8:={
 keep:=fun h _ _ _=>h
 len:=fun h=>by rw [h];rfl
 one:=fun h u hu=>by rw [h] at hu;simp at hu;rcases hu with rfl|rfl|rfl|rfl|rfl|rfl|rfl|rfl<;>rfl
 }
theorem Oi:∃i,Tryz.prog.info? 106=some i∧i.zero=some (.agg #[.complex .f64 0 0,.int .i64 0,.string ⟨#[]⟩,.bool false,.int .i64 0,.string ⟨#[]⟩,.bool false,.bool false])∧i.size=8∧i.bytes=80:=by
 have h:(Tryz.prog.info? 106).map (fun i=>(i.zero,i.size,i.bytes))=some (some (.agg #[.complex .f64 0 0,.int .i64 0,.string ⟨#[]⟩,.bool false,.int .i64 0,.string ⟨#[]⟩,.bool false,.bool false]),8,80):=by kernel_rfl
 cases hi:Tryz.prog.info? 106 with
 |none=>rw [hi] at h;cases h
 |some i=>rw [hi] at h;simp at h;exact ⟨i,rfl,h.1,h.2.1,h.2.2⟩
/-! ### maps as lists -/
def GX(w:World)(b:Nat)(l:List (Ae×Ae)):Prop:=∃es k,w.heap[b]? =some (.map (Cm Cn es) k)∧es.map (fun e=>(e.key,e.val))=l.map (fun x=>(x.1,Cn x.2))
def MP(es:List (Ls Ae))(k:Nat)(l:List Ae):Prop:=es.map (fun e=>(e.key,e.val))=l.map (fun x=>(x,.agg #[]))∧(es.map (·.born)).Nodup∧∀e∈es,e.born<k
def ER(w:World)(b:Nat)(l:List Ae):Prop:=∃es k,w.heap[b]? =some (.map (Cm Cn es) k)∧MP es k l
def VU(w:World)(b:Nat)(g:Ah):Prop:=∃(es:List (Ls ByteArray)) (k:Nat),w.heap[b]? =some (.map (Cm (fun s=>Value.string s) es) k)∧∀s,(Ma s es).getD (.int .i64 0)= .int .i64 (flook g s:Nat)
theorem Tp{κ:Type}[DecidableEq κ](k:κ):∀(l:List (Ls κ)) (i j:Nat),(Ei k l i).map (·.2)=(Ei k l j).map (·.2)
 | [],_,_=>rfl
 | e::l,i,j=>by
   unfold Ei
   split
   ·rfl
   exact Tp k l _ _
theorem Jk{κ:Type}[DecidableEq κ](k:κ)(e:Ls κ)(l:List (Ls κ)):Ma k (e::l)=if k=e.key then some e.val else Ma k l:=by
 unfold Ma
 conv=>lhs;unfold Ei
 split
 ·rfl
 exact Tp k l _ _
theorem Hy{a b:Ae}:Oq a b=true↔a=b:=by
 obtain ⟨x,y⟩:=a;obtain ⟨x2,y2⟩:=b;unfold Oq;simp only [Bool.and_eq_true,beq_iff_eq,Prod.mk.injEq];exact ⟨fun ⟨h1,h2⟩=>⟨h1,Cv.1 h2⟩,fun ⟨h1,h2⟩=>⟨h1,Cv.2 h2⟩⟩
theorem Pq(k:Ae):∀{es:List (Ls Ae)} {l:List (Ae×Ae)},es.map (fun e=>(e.key,e.val))=l.map (fun x=>(x.1,Cn x.2))→Ma k es=(Cf k l).map Cn
 | [],[],_=>rfl
 | e::es,x::l,h=>by
   simp only [List.map_cons,List.cons.injEq,Prod.mk.injEq] at h;obtain ⟨⟨h1,h2⟩,h3⟩:=h;rw [Jk];unfold Cf
   by_cases hk:k=e.key
   ·rw [if_pos hk,if_pos (Hy.2 (hk.trans h1)),h2];rfl
   rw [if_neg hk,if_neg (fun h=>hk ((Hy.1 h).trans h1.symm))];exact Pq k h3
 | [],_::_,h=>by simp at h
 |_::_,[],h=>by simp at h
theorem Va{t:Ae}:∀{l:List Ae},Vb t l=true↔t∈l
 | []=>by simp [Vb]
 | x::l=>by
   unfold Vb
   by_cases h:Oq t x=true
   ·rw [if_pos h];simp [Hy.1 h]
   rw [if_neg h,Va,List.mem_cons];exact ⟨.inr,fun h2=>h2.resolve_left fun h3=>h (Hy.2 h3)⟩
theorem Ju{κ:Type}[DecidableEq κ]{k:κ}:∀{l:List (Ls κ)} {i:Nat},Ei k l i=none↔k∉l.map (·.key)
 | [],_=>by simp [Ei]
 | e::l,i=>by
   unfold Ei
   by_cases h:k=e.key
   ·simp [h]
   rw [if_neg h,Ju];simp [h]
theorem ER.put{w':World}{b:Nat}{l:List Ae}{t:Ae}{es:List (Ls Ae)}{k:Nat}(he0:MP es k l)(hb:w'.heap[b]? =some (.map (Cm Cn (Cw t (.agg #[]) k es).1) (Cw t (.agg #[]) k es).2)):ER w' b (if Vb t l then l else l++ [t]):=by
 obtain ⟨he,hbn,hbl⟩:=he0
 have hkeys:es.map (·.key)=l:=by
  have:=congrArg (List.map Prod.fst) he
  simpa [List.map_map,Function.comp_def] using this
 refine ⟨_,_,hb, ?_⟩;unfold Cw
 cases h:Ei t es 0 with
 | none=>
  have hn:t∉l:=by rw [←hkeys];exact Ju.1 h
  rw [if_neg (fun h2=>hn (Va.1 h2))];refine ⟨by simp [he], ?_,fun e hm=> ?_⟩
  ·simp only [List.map_append,List.map_cons,List.map_nil];rw [List.nodup_append];refine ⟨hbn,by simp,fun x hx y hy hxy=> ?_⟩;obtain ⟨e,hm,rfl⟩:=List.mem_map.1 hx;have:=hbl e hm;simp at hy
   omega
  rcases List.mem_append.1 hm with hm|hm
  ·exact Nat.lt_succ_of_lt (hbl e hm)
  simp at hm;subst hm;exact Nat.lt_succ_self k
 | some x=>
  obtain ⟨i,v⟩:=x
  have hm:t∈l:=by
   rw [←hkeys];exact Classical.byContradiction fun hn=>by rw [Ju.2 hn] at h;cases h
  have hv:∀e∈es,e.val= .agg #[]:=fun e hm=>by
   have:(e.key,e.val)∈es.map (fun e=>(e.key,e.val)):=List.mem_map.2 ⟨e,hm,rfl⟩;rw [he] at this;obtain ⟨x,_,hx⟩:=List.mem_map.1 this;exact (Prod.mk.inj hx).2.symm
  have hsame:es.modify i (fun e=>{e with val:= .agg #[]})=es:=by
   apply List.ext_getElem?;intro j;simp only [List.getElem?_modify]
   cases hj:es[j]? with
   |none=>simp
   | some e=>
    have:=hv e (List.mem_of_getElem? hj)
    by_cases hij:i=j
    ·simp [hij]
     cases e
     simp_all
    simp [hij]
  rw [if_pos (Va.2 hm)];simp only [hsame];exact ⟨he,hbn,hbl⟩
theorem GX.put{w':World}{b:Nat}{l:List (Ae×Ae)}{t u:Ae}{es:List (Ls Ae)}{k:Nat}(he:es.map (fun e=>(e.key,e.val))=l.map (fun x=>(x.1,Cn x.2)))(hn:Cf t l=none)(hb:w'.heap[b]? =some (.map (Cm Cn (Cw t (Cn u) k es).1) (Cw t (Cn u) k es).2)):GX w' b (l++ [(t,u)]):=by
 refine ⟨_,_,hb, ?_⟩
 have h:Ei t es 0=none:=by
  have:=Pq t he;rw [hn] at this;unfold Ma at this
  cases h2:Ei t es 0 with
  |none=>rfl
  |some x=>rw [h2] at this;cases this
 unfold Cw;rw [h];simp [he]
structure Ba where
 g:Ah
 w0:World
 c:Nat
 mf:Nat
 ms:Nat
 mn:Nat
 ra:Option Addr
 rc:Nat
 fa:Option Addr
 fc:Nat
structure Dp (K:Ba):Prop where
 rules:Aq Rm K.w0 (fun _=>True) K.g.rules (.slice K.ra K.g.rules.length K.rc)
 funcs:Aq Ug K.w0 (fun _=>True) K.g.funcs (.slice K.fa K.g.funcs.length K.fc)
 c:K.w0.heap.size≤K.c
 mf:K.w0.heap.size≤K.mf
 ms:K.w0.heap.size≤K.ms
 mn:K.w0.heap.size≤K.mn
 ne:K.c≠K.mf∧K.c≠K.ms∧K.c≠K.mn∧K.mf≠K.ms∧K.mf≠K.mn∧K.ms≠K.mn
 small:K.g.funcs.length≤1000000
 rsmall:K.g.rules.length≤1000000
 psmall:∀f∈K.g.funcs,f.params.length≤1000000
 tsmall:∀r∈K.g.rules,r.pats.length≤1000000
abbrev XS(K:Ba)(st:NS)(ua:Option Addr)(uc:Nat):Obj:=
 .cells #[.slice K.ra K.g.rules.length K.rc,.slice K.fa K.g.funcs.length K.fc,.map (some K.mf),.int .i64 st.fn,.int .i64 st.rule,.int .i64 st.loops,.slice ua st.uses.length uc,.map (some K.ms),.map (some K.mn),.complex .f64 st.re st.im,.int .i64 st.e] 70 (0,0)
structure CK (K:Ba) (T:Nat→Prop) (ua:Option Addr) (uc:Nat) (st:NS) (W:World):Prop where
 keep:Ac [] K.w0 W
 row:W.heap[K.c]? =some (XS K st ua uc)
 fns:VU W K.mf K.g
 same:GX W K.ms st.same
 seen:ER W K.mn st.seen
 uses:Ax VR 106 8 W K.w0.heap.size T st.uses (.slice ua st.uses.length uc)
 up:∀x,T x→x<W.heap.size
 dn:∀x,T x→K.w0.heap.size≤x
 ns:¬T K.c∧¬T K.mf∧¬T K.ms∧¬T K.mn
 fn:st.fn≤K.g.funcs.length
 loops: -1000000≤st.loops∧st.loops≤1000000
theorem VU.keep{w w':World}{b:Nat}{g:Ah}{fp:List Nat}(h:VU w b g)(hk:Ac fp w w')(hb:b∉fp):VU w' b g:=by
 exact qoe
theorem GX.keep{w w':World}{b:Nat}{l:List (Ae×Ae)}{fp:List Nat}(h:GX w b l)(hk:Ac fp w w')(hb:b∉fp):GX w' b l:=by
 exact qoe
theorem ER.keep{w w':World}{b:Nat}{l:List Ae}{fp:List Nat}(h:ER w b l)(hk:Ac fp w w')(hb:b∉fp):ER w' b l:=by
 exact qoe
theorem CK.kp{K:Ba}{T:Nat→Prop}{ua:Option Addr}{uc:Nat}{st:NS}{W W':World}{fp:List Nat}(h:CK K T ua uc st W)(hk:Ac fp W W')(h0:∀x∈fp,K.w0.heap.size≤x)(hc:K.c∉fp)(hmf:K.mf∉fp)(hms:K.ms∉fp)(hmn:K.mn∉fp)(hT:∀x∈fp,¬T x):CK K T ua uc st W':=
 ⟨h.keep.trans hk (fun x hx=> .inr (h0 x hx)),hk.at h.row hc,h.fns.keep hk hmf,h.same.keep hk hms,h.seen.keep hk hmn,h.uses.kp Ui hk hT,fun x hx=>Nat.lt_of_lt_of_le (h.up x hx) hk.size,h.dn,h.ns,h.fn,h.loops⟩
theorem CK.kp0{K:Ba}{T:Nat→Prop}{ua:Option Addr}{uc:Nat}{st:NS}{W W':World}(h:CK K T ua uc st W)(hk:Ac [] W W'):CK K T ua uc st W':=h.kp hk qg qg qg qg qg qg
theorem CK.upd{K:Ba}(hK:Dp K){T:Nat→Prop}{ua:Option Addr}{uc:Nat}{st st':NS}{W W':World}{fp:List Nat}(h:CK K T ua uc st W)(hk:Ac (K.c::fp) W W')(hr:W'.heap[K.c]? =some (XS K st' ua uc))(h0:∀x∈fp,K.w0.heap.size≤x)(hmf:K.mf∉fp)(hms:K.ms∉fp)(hmn:K.mn∉fp)(hT:∀x∈fp,¬T x)
  (hs:st'.same=st.same) (hn:st'.seen=st.seen) (hu:st'.uses=st.uses) (hf:st'.fn≤K.g.funcs.length) (hl: -1000000≤st'.loops∧st'.loops≤1000000):CK K T ua uc st' W':=
 ⟨h.keep.trans hk (fun x hx=>by rcases List.mem_cons.1 hx with rfl|hx;exact .inr hK.c;exact .inr (h0 x hx)),hr,h.fns.keep hk (by simp [Ne.symm hK.ne.1,hmf]),hs▸h.same.keep hk (by simp [Ne.symm hK.ne.2.1,hms]),hn▸h.seen.keep hk (by simp [Ne.symm hK.ne.2.2.1,hmn]),
  by rw [hu];exact h.uses.kp Ui hk (fun x hx=>by rcases List.mem_cons.1 hx with rfl|hx;exact h.ns.1;exact hT x hx),fun x hx=>Nat.lt_of_lt_of_le (h.up x hx) hk.size,h.dn,h.ns,hf,hl⟩
def Ak(K:Ba)(T T':Nat→Prop)(W W':World):Prop:=
 (∀x,T' x→T x∨(W.heap.size≤x∧x<W'.heap.size))∧∃fl:List Nat,(∀x∈fl,x=K.c∨x=K.ms∨x=K.mn∨T x)∧Ac fl W W'
theorem Ak.refl(K:Ba)(T:Nat→Prop)(W:World):Ak K T T W W:=⟨fun _ h=> .inl h,[],by simp,Ac.refl _ _⟩
theorem Ak.size{K:Ba}{T T':Nat→Prop}{W W':World}(h:Ak K T T' W W'):W.heap.size≤W'.heap.size:=by obtain ⟨_,fl,_,hk⟩:=h;exact hk.size
theorem Ak.trans{K:Ba}{T T' T'':Nat→Prop}{W W' W'':World}(h:Ak K T T' W W')(k:Ak K T' T'' W' W''):Ak K T T'' W W'':=by
 have hs:=h.size;have hs2:=k.size;obtain ⟨h1,fl,h2,h3⟩:=h;obtain ⟨k1,fl',k2,k3⟩:=k;refine ⟨fun x hx=> ?_,fl++fl'.filter (fun x=>decide (x<W.heap.size)),fun x hx=> ?_, ?_⟩
 ·rcases k1 x hx with h|h
  ·exact (h1 x h).imp id fun h=>⟨h.1,Nat.lt_of_lt_of_le h.2 hs2⟩
  exact .inr ⟨Nat.le_trans hs h.1,h.2⟩
 ·rcases List.mem_append.1 hx with hx|hx
  ·exact h2 x hx
  obtain ⟨hx,hlt⟩:=List.mem_filter.1 hx;simp at hlt
  rcases k2 x hx with h|h|h|h
  ·exact .inl h
  ·exact .inr (.inl h)
  ·exact .inr (.inr (.inl h))
  rcases h1 x h with h|h
  ·exact .inr (.inr (.inr h))
  exact absurd hlt (Nat.not_lt_of_le h.1)
 refine (h3.weaken (fun x hx=> .inl (List.mem_append_left _ hx))).trans k3 fun x hx=> ?_
 by_cases hlt:x<W.heap.size
 ·exact .inl (List.mem_append_right _ (List.mem_filter.2 ⟨hx,by simpa using hlt⟩))
 exact .inr (Nat.not_lt.1 hlt)
def Fu(K:Ba)(T:Nat→Prop)(b:Nat):Prop:=b≠K.c∧b≠K.ms∧b≠K.mn∧¬T b
theorem Ak.at{K:Ba}{T T':Nat→Prop}{W W':World}(h:Ak K T T' W W'){b:Nat}{o:Obj}(hb:W.heap[b]? =some o)(ho:Fu K T b):W'.heap[b]? =some o:=by
 obtain ⟨_,fl,h2,h3⟩:=h;refine h3.at hb fun hm=> ?_
 rcases h2 b hm with h|h|h|h
 ·exact ho.1 h
 ·exact ho.2.1 h
 ·exact ho.2.2.1 h
 exact ho.2.2.2 h
theorem Ak.off{K:Ba}{T T':Nat→Prop}{W W':World}(h:Ak K T T' W W'){b:Nat}(hb:b<W.heap.size)(ho:Fu K T b):Fu K T' b:=
 ⟨ho.1,ho.2.1,ho.2.2.1,fun ht=>(h.1 b ht).elim ho.2.2.2 fun h2=>Nat.not_lt_of_le h2.1 hb⟩
theorem CK.lt{K:Ba}{T:Nat→Prop}{ua:Option Addr}{uc:Nat}{st:NS}{W:World}(h:CK K T ua uc st W):K.c<W.heap.size∧K.mf<W.heap.size∧K.ms<W.heap.size∧K.mn<W.heap.size:=by
 obtain ⟨_,_,h1,_⟩:=h.fns;obtain ⟨_,_,h2,_⟩:=h.same;obtain ⟨_,_,h3,_⟩:=h.seen;exact ⟨Ad h.row,Ad h1,Ad h2,Ad h3⟩
theorem Ak.loc{K:Ba}{T0 T:Nat→Prop}{w W W':World}{fp:List Nat}(h:Ak K T0 T w W)(hk:Ac fp W W')(hf:∀x∈fp,x=K.c∨w.heap.size≤x):Ak K T0 T w W':=by
 obtain ⟨h1,fl,h2,h3⟩:=h;refine ⟨fun x hx=>(h1 x hx).imp id fun h=>⟨h.1,Nat.lt_of_lt_of_le h.2 hk.size⟩,K.c::fl,fun x hx=> ?_, ?_⟩
 ·rcases List.mem_cons.1 hx with rfl|hx
  ·exact .inl rfl
  exact h2 x hx
 refine (h3.weaken (fp':=K.c::fl) (fun x hx=> .inl (List.mem_cons_of_mem _ hx))).trans hk fun x hx=> ?_
 rcases hf x hx with rfl|h
 ·exact .inl (List.mem_cons_self ..)
 exact .inr h
theorem Ao{K:Ba}{T:Nat→Prop}{ua:Option Addr}{uc:Nat}{st:NS}{W:World}(h:CK K T ua uc st W){b:Nat}(hb:W.heap.size≤b):Fu K T b:=by
 have hl:=h.lt;exact ⟨fun e=>Nat.not_lt_of_le hb (e▸hl.1),fun e=>Nat.not_lt_of_le hb (e▸hl.2.2.1),fun e=>Nat.not_lt_of_le hb (e▸hl.2.2.2),fun ht=>Nat.not_lt_of_le hb (h.up b ht)⟩
theorem CK.flook{K:Ba}{T:Nat→Prop}{ua:Option Addr}{uc:Nat}{st:NS}{W:World}(h:CK K T ua uc st W)(name:ByteArray){v:Int}(hv:v=(YtkfillfkbhbbjaaGreatDoor.flook K.g name:Nat)):(Instr.lookup 65 (.map (some K.mf)) (.string name) false).run Tryz.prog W= .ok (.int .i64 v) W:=by
 obtain ⟨es,k,h1,h2⟩:=h.fns;have:=Yp (P:=Tryz.prog) (XD Tryz.underlying9) Tryz.underlying65 (z:= .int .i64 0) (w:=W) (by simp [go_sem]) h1 name;rw [this,h2 name,hv]
theorem CK.flook'{K:Ba}{T:Nat→Prop}{ua:Option Addr}{uc:Nat}{st:NS}{W:World}(h:CK K T ua uc st W)(name:ByteArray){v:Int}(hv:v=(YtkfillfkbhbbjaaGreatDoor.flook K.g name:Nat)):(Instr.lookup 65 (.map (some K.mf)) (.string name) false).run Tryz.prog W.drew= .ok (.int .i64 v) W.drew:=
 (h.kp0 (Ac.drew [] W)).flook name hv
theorem CK.look_some{K:Ba}{T:Nat→Prop}{ua:Option Addr}{uc:Nat}{st:NS}{W:World}(h:CK K T ua uc st W){a a':Nat}{b b':ByteArray}(hr:Cf (a,b) st.same=some (a',b')):(Instr.lookup 66 (.map (some K.ms)) (.agg #[.int .i64 a,.string b]) true).run Tryz.prog W= .ok (.tuple #[.agg #[.int .i64 a',.string b'],.bool true]) W:=by
 exact qie
theorem CK.look_none{K:Ba}{T:Nat→Prop}{ua:Option Addr}{uc:Nat}{st:NS}{W:World}(h:CK K T ua uc st W){a:Nat}{b:ByteArray}(hr:Cf (a,b) st.same=none):(Instr.lookup 66 (.map (some K.ms)) (.agg #[.int .i64 a,.string b]) true).run Tryz.prog W= .ok (.tuple #[.agg #[.int .i64 0,.string ⟨#[]⟩],.bool false]) W:=by
 exact qie
theorem Ug.keep0{w w':World}{S:Nat→Prop}{f:Az}{c:List Value}(h:Ug w S f c)(hk:Ac [] w w'):Ug w' S f c:=Es.keep h hk qg fun _ h=>h
theorem CK.func{K:Ba}(hK:Dp K){T:Nat→Prop}{ua:Option Addr}{uc:Nat}{st:NS}{W:World}(h:CK K T ua uc st W){i:Nat}(hi:i<K.g.funcs.length):
  ∃g o pa pc b0 b1 b2 b3 b4,K.fa=some ⟨g,o,none⟩∧W.cell? ⟨g,o+i*8,none⟩=some (.string K.g.funcs[i].name)∧W.cell? ⟨g,o+i*8+1,none⟩=some (.slice pa K.g.funcs[i].params.length pc)∧W.cell? ⟨g,o+i*8+2,none⟩=some b0∧W.cell? ⟨g,o+i*8+3,none⟩=some b1∧W.cell? ⟨g,o+i*8+4,none⟩=some b2∧W.cell? ⟨g,o+i*8+5,none⟩=some b3∧
   W.cell? ⟨g,o+i*8+6,none⟩=some b4∧W.cell? ⟨g,o+i*8+7,none⟩=some (.complex .f64 K.g.funcs[i].re K.g.funcs[i].im)∧Aq Ef K.w0 (fun _=>True) K.g.funcs[i].params (.slice pa K.g.funcs[i].params.length pc)∧Au K.w0 (fun _=>True) K.g.funcs[i].body (.agg #[b0,b1,b2,b3,b4]):=by
 obtain ⟨g,o,cap,c,hv,-,hg,⟨pa,pc,b0,b1,b2,b3,b4,rfl,hp,hn⟩,hc⟩:=hK.funcs.get Es hi
 have hc':∀j u,[.string K.g.funcs[i].name,.slice pa K.g.funcs[i].params.length pc,b0,b1,b2,b3,b4,.complex .f64 K.g.funcs[i].re K.g.funcs[i].im][j]? =some u→W.cell? ⟨g,o+i*8+j,none⟩=some u:=fun j u hj=>by
  exact zve
 have hfa:K.fa=some ⟨g,o,none⟩:=by injection hv
 exact ⟨g,o,pa,pc,b0,b1,b2,b3,b4,hfa,hc' 0 _ rfl,hc' 1 _ rfl,hc' 2 _ rfl,hc' 3 _ rfl,hc' 4 _ rfl,hc' 5 _ rfl,hc' 6 _ rfl,hc' 7 _ rfl,hp,hn⟩
theorem CK.str{K:Ba}{T:Nat→Prop}{ua:Option Addr}{uc:Nat}{st:NS}{W:World}(h:CK K T ua uc st W){l:List ByteArray}{a:Option Addr}{cap:Nat}(hs:Aq Ef K.w0 (fun _=>True) l (.slice a l.length cap)){i:Nat}(hi:i<l.length):∃g o,a=some ⟨g,o,none⟩∧W.cell? ⟨g,o+i,none⟩=some (.string l[i]):=by
 obtain ⟨g,o,cap,c,hv,-,hg,rfl,hc⟩:=hs.get Bu hi;have hfa:a=some ⟨g,o,none⟩:=by injection hv
 refine ⟨g,o,hfa, ?_⟩;rw [World.cell?_of_block (w:=K.w0) (a:=⟨g,o+i,none⟩) (h.keep.block g hg qg)];have:=hc 0 _ rfl
 simpa using this
theorem CK.see{K:Ba}(hK:Dp K){T:Nat→Prop}{ua:Option Addr}{uc:Nat}{st:NS}{W W':World}(h:CK K T ua uc st W)(t:Ae){es:List (Ls Ae)}{k:Nat}(he:MP es k st.seen)(hk:Ac [K.mn] W W')
  (hb:W'.heap[K.mn]? =some (.map (Cm Cn (Cw t (.agg #[]) k es).1) (Cw t (.agg #[]) k es).2)):CK K T ua uc (Df st t) W':=
 ⟨h.keep.trans hk (by simp;exact hK.mn),hk.at h.row (by simp [hK.ne.2.2.1]),h.fns.keep hk (by simp [hK.ne.2.2.2.2.1]),h.same.keep hk (by simp [hK.ne.2.2.2.2.2]),ER.put he hb,h.uses.kp Ui hk (by simp;exact h.ns.2.2.2),fun x hx=>Nat.lt_of_lt_of_le (h.up x hx) hk.size,h.dn,h.ns,h.fn,h.loops⟩
theorem Ak.mn{K:Ba}{T0 T:Nat→Prop}{w W W':World}(h:Ak K T0 T w W)(hk:Ac [K.mn] W W'):Ak K T0 T w W':=
 h.trans ⟨fun _ h=> .inl h,[K.mn],by simp,hk⟩
theorem Uq{K:Ba}{es:List (Ls Ae)}{k:Nat}{W:World}(hb:W.heap[K.mn]? =some (.map (Cm Cn es) k))(a:Nat)(b:ByteArray):
  (Instr.mapUpdate 67 (.map (some K.mn)) (.agg #[.int .i64 a,.string b]) (.agg #[])).run Tryz.prog W= .ok () (mset W K.mn (.map (Cm Cn (Cw (a,b) (.agg #[]) k es).1) (Cw (a,b) (.agg #[]) k es).2)):=
 Qi (P:=Tryz.prog) PC Tryz.underlying67 hb (a,b) (.agg #[])
structure KT (ts:List TypeId) (W W':World):Prop where
 os:W'.os=W.os
 tape:W'.tape=W.tape
 output:W'.output=W.output
 size:W.heap.size≤W'.heap.size
 block:∀k,k<W.heap.size→(∀c t f,W.heap[k]? =some (.cells c t f)→t∉ts)→W'.heap[k]? =W.heap[k]?
theorem KT.refl(ts:List TypeId)(W:World):KT ts W W:=⟨rfl,rfl,rfl,Nat.le_refl _,fun _ _ _=>rfl⟩
theorem KT.trans{ts:List TypeId}{a b c:World}(h:KT ts a b)(k:KT ts b c):KT ts a c:=
 ⟨k.os.trans h.os,k.tape.trans h.tape,k.output.trans h.output,Nat.le_trans h.size k.size,fun i hi hn=>
  (k.block i (Nat.lt_of_lt_of_le hi h.size) (by rw [h.block i hi hn];exact hn)).trans (h.block i hi hn)⟩
theorem KT.at{ts:List TypeId}{w w':World}(h:KT ts w w'){b:Nat}{c:Array Value}{t:TypeId}{f:Nat×Nat}(hb:w.heap[b]? =some (.cells c t f))(ht:t∉ts):w'.heap[b]? =some (.cells c t f):=by
 rw [h.block b (Ad hb) fun c' t' f' h'=>by rw [hb] at h';simp at h';rw [←h'.2.1];exact ht];exact hb
theorem KT.of{ts:List TypeId}{fp:List Nat}{w w':World}(h:Ac fp w w')(hf:∀x∈fp,w.heap.size≤x∨∃c t f,w.heap[x]? =some (.cells c t f)∧t∈ts):KT ts w w':=
 ⟨h.os,h.tape,h.output,h.size,fun k hk hn=>h.block k hk fun hm=>by
  rcases hf k hm with h1|⟨c,t,f,h1,h2⟩
  ·omega
  exact hn c t f h1 h2⟩
theorem KT.ofOne{ts:List TypeId}{b:Nat}{w w':World}{c:Array Value}{t:TypeId}{f:Nat×Nat}(h:Ac [b] w w')(hb:w.heap[b]? =some (.cells c t f))(ht:t∈ts):KT ts w w':=
 KT.of h fun x hx=> .inr ⟨c,t,f,by rw [List.mem_singleton.1 hx];exact hb,ht⟩
theorem KT.of0{ts:List TypeId}{w w':World}(h:Ac [] w w'):KT ts w w':=KT.of h qg
theorem KT.add{ts:List TypeId}{a b c:World}(h:KT ts a b)(k:Ac [] b c):KT ts a c:=h.trans (KT.of0 k)
theorem KT.keeps{ts:List TypeId}{w0 w w':World}(h:KT ts w w')(k:Ac [] w0 w)(hn:∀b,b<w0.heap.size→∀c t f,w.heap[b]? =some (.cells c t f)→t∉ts):Ac [] w0 w':=
 ⟨h.os.trans k.os,h.tape.trans k.tape,h.output.trans k.output,Nat.le_trans k.size h.size,fun i hi hm=>(h.block i (Nat.lt_of_lt_of_le hi k.size) (hn i hi)).trans (k.block i hi hm)⟩
def Dz{α:Type}(t:TypeId)(size:Nat)(enc:α→List Value)(W:World)(b:Nat)(l:List α)(a:Option Addr)(cap:Nat):Prop:=W.ownsRow b t size (.slice a l.length cap) l.length (l.flatMap enc)
section
variable {α:Type} {t:TypeId} {size:Nat} {enc:α→List Value}
theorem Dz.kp{W W':World}{b:Nat}{l:List α}{a:Option Addr}{cap:Nat}(h:Dz t size enc W b l a cap)(hk:∀g c,W.heap[g]? =some (.cells c t (0,0))→b≤g→W'.heap[g]? =W.heap[g]?):Dz t size enc W' b l a cap:=
 Ge h fun g hg=>by
  rcases h.2 with ⟨h1,-⟩|⟨g',cap',cur,h1,hb,hh,-⟩
  ·simp at h1;rw [h1.1] at hg;simp [Value.ownBlock] at hg
  simp at h1;rw [h1.1] at hg;simp [Value.ownBlock] at hg;subst hg;exact hk _ _ hh hb
theorem DY(hs:∀x,(enc x).length=size):∀{l:List α} {i:Nat} (hi:i<l.length) {j:Nat} {u:Value},(enc l[i])[j]? =some u→(l.flatMap enc)[i*size+j]? =some u
 | x::l,0,hi,j,u,h=>by
   rw [List.flatMap_cons,Nat.zero_mul,Nat.zero_add];show (enc x++_)[j]? =_;rw [List.getElem?_append_left (List.getElem?_eq_some_iff.1 (show (enc x)[j]? =some u from h)).1];exact h
 | x::l,i+1,hi,j,u,h=>by
   rw [List.flatMap_cons,List.getElem?_append_right (by rw [hs,Nat.add_mul];omega),hs,show (i+1)*size+j -size=i*size+j from by rw [Nat.add_mul];omega];exact DY hs (l:=l) (by simpa using hi) (by simpa using h)
theorem Dz.get(hs:∀x,(enc x).length=size){W:World}{b:Nat}{l:List α}{a:Option Addr}{cap:Nat}(h:Dz t size enc W b l a cap){i:Nat}(hi:i<l.length):∃g,a=some ⟨g,0,none⟩∧g<W.heap.size∧(∃c,W.heap[g]? =some (.cells c t (0,0)))∧∀j u,(enc l[i])[j]? =some u→W.cell? ⟨g,i*size+j,none⟩=some u:=by
 rcases h.2 with ⟨h1,h2⟩|⟨g,cap',cur,h1,hb,hh,h3,h4,h5,h6⟩
 ·simp at h1;omega
 simp at h1;refine ⟨g,h1.1,Ad hh,⟨_,hh⟩,fun j u hj=> ?_⟩;rw [Aa hh];have:=DY hs hi hj;rw [←h6,List.getElem?_take] at this
 split at this
 ·simpa using this
 cases this
theorem Dz.cap{W:World}{b:Nat}{l:List α}{a:Option Addr}{cap:Nat}(h:Dz t size enc W b l a cap):l.length≤cap:=by
 rcases h.2 with ⟨h1,h2⟩|⟨g,c,cur,h1,_,_,h3,_⟩
 ·omega
 simp at h1;omega
theorem Dz.nil{W:World}{b:Nat}:Dz t size enc W b ([]:List α) none 0:=World.ownsRow_nil _ _ _ _
end
theorem CJ{α:Type}{t:TypeId}{size:Nat}{enc:α→List Value}{w w1:World}{b g cap cp:Nat}{ad:Option Addr}{l:List α}{x:α}(hO:Dz t size enc w b l ad cp)(hb:b≤w.heap.size)(g1:w1.ownsRow b t size (.slice (some ⟨g,0,none⟩) (l.length+1) cap) (l.length+1) (l.flatMap enc++enc x))(g2:w.grownBy w1 (Value.slice ad l.length cp).ownBlock)(g3:(Value.slice ad l.length cp).ownBlock=some g∨g=w.heap.size):Dz t size enc w1 b (l++ [x]) (some ⟨g,0,none⟩) cap∧KT [t] w w1∧(∀c r f,w.heap[g]? =some (.cells c r f)→r=t)∧∀k,k<b→w1.heap[k]? =w.heap[k]? :=by
 have hty:∀g',(Value.slice ad l.length cp).ownBlock=some g'→(∃c,w.heap[g']? =some (.cells c t (0,0)))∧b≤g':=fun g' hg'=>by
  rcases hO.2 with ⟨h1,-⟩|⟨g'',cap',cur,h1,hb,hh,-⟩
  ·simp at h1;rw [h1.1] at hg';simp [Value.ownBlock] at hg'
  simp at h1;rw [h1.1] at hg';simp [Value.ownBlock] at hg';subst hg';exact ⟨⟨_,hh⟩,hb⟩
 refine ⟨by unfold Dz;simpa using g1,KT.of (Ac.grown (fp:=(Value.slice ad l.length cp).ownBlock.toList) g2 fun k hk=> .inl (by simp [hk])) fun y hy=> ?_,fun c r f hc=> ?_,fun k hk=>g2.block k jh fun e=>by have:=(hty k e.symm).2;omega⟩
 ·obtain ⟨⟨c,hc⟩,-⟩:=hty y (by simpa using hy);exact .inr ⟨c,t,(0,0),hc,by simp⟩
 rcases g3 with g3|g3
 ·obtain ⟨⟨c',hc'⟩,-⟩:=hty g g3;rw [hc'] at hc;simp at hc;exact hc.2.1.symm
 have:=Ad hc;omega
section
variable {α:Type} {P:Program} {t ty:TypeId} {size:Nat} {enc:α→List Value} {ops:Array Oper} {rest:List Oper} {o:Oper} {a:Act} {w:World} {Q:Exit→Act→World→Prop}
theorem Jj{x:α}(hs:(enc x).length=size){G:Nat}(hG:∃f,w.heap[G]? =some (.cells (enc x).toArray t f)):∀j u,(enc x)[j]? =some u→w.cell? ((⟨G,0,none⟩:Addr).add j)=some u:=fun j u hj=>by
 obtain ⟨f,hG⟩:=hG;have:=Aa hG j;exact YJ
theorem IG(hs:∀x,(enc x).length=size)(h1c:∀x,∀u∈enc x,u.oneCell'=true)(hgd:o.guard=none)(s y:Operand)
  (ho:o.op= .call {callee:= .builtin .append,args:= #[s,y],argTypes:= #[ty,ty]}) {i:TypeInfo} {z:Value} {bytes:Nat} (hu:P.underlying ty=some (.slice t)) (hi:P.info? t=some i) (hz:i.zero=some z)
  (hsize:i.size=size) (hby:i.bytes=bytes) (hzs:z.cells.size=size) (hsz:0<size) (hbb:bytes≤1000)
  {b G cap cp:Nat} {ad:Option Addr} {l:List α} {x:α} (hsv:a.eval s= .slice ad l.length cp) (hy:a.eval y= .slice (some ⟨G,0,none⟩) 1 cap) (hO:Dz t size enc w b l ad cp)
  (hG:∃f,w.heap[G]? =some (.cells (enc x).toArray t f)) (hb:b≤w.heap.size) (hl:l.length≤1000000)
  (h:∀g cp' w',Dz t size enc w' b (l++ [x]) (some ⟨g,0,none⟩) cp'∧KT [t] w w'∧(∀c r f,w.heap[g]? =some (.cells c r f)→r=t)∧(∀k,k<b→w'.heap[k]? =w.heap[k]?)→wpList P ops Q rest (a.put o.dst (.slice (some ⟨g,0,none⟩) (l.length+1) cp')) w'):wpList P ops Q (o::rest) a w:=
 wpList_append_lies w hgd s y ty ho b t i z size bytes hu hi hz hsize hby hzs hsz _ l.length _ hsv hO ⟨G,0,none⟩ 1 cap (enc x) hy (by simp [hs]) (Jj (hs x) hG) (h1c x) jh zw
  (Nat.le_trans (Nat.mul_le_mul (show l.length+1≤1000001 by omega) hbb) zi) hb _ rfl fun g cp' w1 g1 g2 g3 _=>h g cp' w1 (CJ hO hb g1 g2 g3)
theorem Mx{K:Act→World→Prop}{E:Prop}(hs:∀x,(enc x).length=size)(h1c:∀x,∀u∈enc x,u.oneCell'=true)(hgd:o.guard=none)(s y:Operand)
  (ho:o.op= .call {callee:= .builtin .append,args:= #[s,y],argTypes:= #[ty,ty]}) {i:TypeInfo} {z:Value} {bytes:Nat} (hu:P.underlying ty=some (.slice t)) (hi:P.info? t=some i) (hz:i.zero=some z)
  (hsize:i.size=size) (hby:i.bytes=bytes) (hzs:z.cells.size=size) (hsz:0<size) (hbb:bytes≤1000)
  {b G cap cp:Nat} {ad:Option Addr} {l:List α} {x:α} (hsv:a.eval s= .slice ad l.length cp) (hy:a.eval y= .slice (some ⟨G,0,none⟩) 1 cap) (hO:Dz t size enc w b l ad cp)
  (hG:∃f,w.heap[G]? =some (.cells (enc x).toArray t f)) (hb:b≤w.heap.size) (hl:l.length≤1000000)
  (h:∀g cp' w',Dz t size enc w' b (l++ [x]) (some ⟨g,0,none⟩) cp'∧KT [t] w w'∧(∀c r f,w.heap[g]? =some (.cells c r f)→r=t)∧(∀k,k<b→w'.heap[k]? =w.heap[k]?)→K (a.put o.dst (.slice (some ⟨g,0,none⟩) (l.length+1) cp')) w'):
  if Region.wanted o (yielded ops a.tmps)=true then o.wp P a w K Q else E:=
 step_append_lies w hgd s y ty ho b t i z size bytes hu hi hz hsize hby hzs hsz _ l.length _ hsv hO ⟨G,0,none⟩ 1 cap (enc x) hy (by simp [hs]) (Jj (hs x) hG) (h1c x) jh zw
  (Nat.le_trans (Nat.mul_le_mul (show l.length+1≤1000001 by omega) hbb) zi) hb _ rfl fun g cp' w1 g1 g2 g3 _=>h g cp' w1 (CJ hO hb g1 g2 g3)
end
structure Br where
 g:Ah
 w0:World
 c:Nat
 ra:Option Addr
 rc:Nat
 fa:Option Addr
 fc:Nat
structure Ff (K:Br):Prop where
 rules:Aq Rm K.w0 (fun _=>True) K.g.rules (.slice K.ra K.g.rules.length K.rc)
 funcs:Aq Ug K.w0 (fun _=>True) K.g.funcs (.slice K.fa K.g.funcs.length K.fc)
 c:K.w0.heap.size≤K.c
 small:K.g.funcs.length≤1000000
 rsmall:K.g.rules.length≤1000000
 psmall:∀f∈K.g.funcs,f.params.length≤1000000
 tsmall:∀r∈K.g.rules,r.pats.length≤1000000
structure DX where
 fn:Int
 kind:Int
 loops:Int
 e:Int
 re:Nat
 im:Nat
structure DA where
 ta:Option Addr
 tc:Nat
 ua:Option Addr
 uc:Nat
 ca:Option Addr
 cc:Nat
def JU(x:Ea):List Value:= [.int .i64 ((x.t.1:Int) -1),.string x.t.2,.int .i64 x.like]
def RX(x:Gq):List Value:= [.int .i64 x.thing,.int .i64 x.how,.complex .f64 x.re x.im]
def XX(x:Xs):List Value:= [.int .i64 x.thing,.int .i64 x.atU,.complex .f64 x.re x.im]
theorem thL(x:Ea):(JU x).length=3:=rfl
theorem usL(x:Gq):(RX x).length=3:=rfl
theorem caL(x:Xs):(XX x).length=3:=rfl
abbrev dC(K:Br)(A:DA)(x:DX)(st:DS):Obj:=
 .cells #[.slice K.ra K.g.rules.length K.rc,.slice K.fa K.g.funcs.length K.fc,.slice A.ta st.things.length A.tc,.slice A.ua st.uses.length A.uc,.slice A.ca st.calls.length A.cc,.int .i64 x.e,.complex .f64 x.re x.im,.int .i64 x.fn,.int .i64 x.kind,.int .i64 x.loops] 114 (0,0)
structure DK (K:Br) (A:DA) (x:DX) (st:DS) (W:World):Prop where
 keep:Ac [] K.w0 W
 row:W.heap[K.c]? =some (dC K A x st)
 things:Dz 117 3 JU W K.w0.heap.size st.things A.ta A.tc
 uses:Dz 149 3 RX W K.w0.heap.size st.uses A.ua A.uc
 calls:Dz 180 3 XX W K.w0.heap.size st.calls A.ca A.cc
abbrev JK:List TypeId:= [114,117,149,180]
abbrev Bh(W W':World):Prop:=KT JK W W'
theorem DK.kp{K:Br}{A:DA}{x:DX}{st:DS}{W W':World}{ts:List TypeId}(h:DK K A x st W)(hk:KT ts W W')(h0:Ac [] K.w0 W')(hc:114∉ts)(ht:117∉ts)(hu:149∉ts)(hca:180∉ts):DK K A x st W':=
 ⟨h0,hk.at h.row hc,h.things.kp fun g c hg _=>(hk.at hg ht).trans hg.symm,h.uses.kp fun g c hg _=>(hk.at hg hu).trans hg.symm,h.calls.kp fun g c hg _=>(hk.at hg hca).trans hg.symm⟩
theorem DK.kp0{K:Br}{A:DA}{x:DX}{st:DS}{W W':World}(h:DK K A x st W)(hk:Ac [] W W'):DK K A x st W':=h.kp (KT.of0 (ts:= []) hk) (h.keep.trans hk qg) qg qg qg qg
theorem DK.kpB{K:Br}{A:DA}{x:DX}{st:DS}{W W':World}{b:Nat}{c:Array Value}{t:TypeId}{f:Nat×Nat}(h:DK K A x st W)(hk:Ac [b] W W')(hb:W.heap[b]? =some (.cells c t f))(h0:K.w0.heap.size≤b)(ht:t∉JK):DK K A x st W':=by
 simp at ht;exact h.kp (KT.ofOne (ts:= [t]) hk hb qg) (h.keep.trans hk (by simp;exact h0)) (by simp;exact Ne.symm ht.1) (by simp;exact Ne.symm ht.2.1) (by simp;exact Ne.symm ht.2.2.1) (by simp;exact Ne.symm ht.2.2.2)
theorem DK.upd{K:Br}(hK:Ff K){A:DA}{x x':DX}{st:DS}{W W':World}(h:DK K A x st W)(hk:Ac [K.c] W W')(hr:W'.heap[K.c]? =some (dC K A x' st)):DK K A x' st W':=
 have k:KT [114] W W':=KT.ofOne hk h.row qg
 ⟨h.keep.trans hk (by simp;exact hK.c),hr,h.things.kp fun g c hg _=>(k.at hg qg).trans hg.symm,h.uses.kp fun g c hg _=>(k.at hg qg).trans hg.symm,h.calls.kp fun g c hg _=>(k.at hg qg).trans hg.symm⟩
theorem DK.step{K:Br}{A:DA}{x:DX}{st:DS}{W W':World}(h:DK K A x st W)(hk:Ac [K.c] W W'):Bh W W':=KT.ofOne hk h.row qg
theorem DK.lt{K:Br}{A:DA}{x:DX}{st:DS}{W:World}(h:DK K A x st W):K.c<W.heap.size:=Ad h.row
theorem DK.func{K:Br}(hK:Ff K){A:DA}{x:DX}{st:DS}{W:World}(h:DK K A x st W){i:Nat}(hi:i<K.g.funcs.length):
  ∃g o pa pc b0 b1 b2 b3 b4,K.fa=some ⟨g,o,none⟩∧W.cell? ⟨g,o+i*8,none⟩=some (.string K.g.funcs[i].name)∧W.cell? ⟨g,o+i*8+1,none⟩=some (.slice pa K.g.funcs[i].params.length pc)∧W.cell? ⟨g,o+i*8+2,none⟩=some b0∧W.cell? ⟨g,o+i*8+3,none⟩=some b1∧W.cell? ⟨g,o+i*8+4,none⟩=some b2∧W.cell? ⟨g,o+i*8+5,none⟩=some b3∧
   W.cell? ⟨g,o+i*8+6,none⟩=some b4∧W.cell? ⟨g,o+i*8+7,none⟩=some (.complex .f64 K.g.funcs[i].re K.g.funcs[i].im)∧Aq Ef K.w0 (fun _=>True) K.g.funcs[i].params (.slice pa K.g.funcs[i].params.length pc)∧Au K.w0 (fun _=>True) K.g.funcs[i].body (.agg #[b0,b1,b2,b3,b4])∧g<W.heap.size:=by
 obtain ⟨g,o,cap,c,hv,-,hg,⟨pa,pc,b0,b1,b2,b3,b4,rfl,hp,hn⟩,hc⟩:=hK.funcs.get Es hi
 have hc':∀j u,[.string K.g.funcs[i].name,.slice pa K.g.funcs[i].params.length pc,b0,b1,b2,b3,b4,.complex .f64 K.g.funcs[i].re K.g.funcs[i].im][j]? =some u→W.cell? ⟨g,o+i*8+j,none⟩=some u:=fun j u hj=>by
  exact zve
 have hfa:K.fa=some ⟨g,o,none⟩:=by injection hv
 exact ⟨g,o,pa,pc,b0,b1,b2,b3,b4,hfa,hc' 0 _ rfl,hc' 1 _ rfl,hc' 2 _ rfl,hc' 3 _ rfl,hc' 4 _ rfl,hc' 5 _ rfl,hc' 6 _ rfl,hc' 7 _ rfl,hp,hn,Nat.lt_of_lt_of_le hg h.keep.size⟩
theorem Rx{w0 W:World}(h:Ac [] w0 W){l:List ByteArray}{a:Option Addr}{cap:Nat}(hs:Aq Ef w0 (fun _=>True) l (.slice a l.length cap)){i:Nat}(hi:i<l.length):∃g o,a=some ⟨g,o,none⟩∧W.cell? ⟨g,o+i,none⟩=some (.string l[i]):=by
 obtain ⟨g,o,cap,c,hv,-,hg,rfl,hc⟩:=hs.get Bu hi;have hfa:a=some ⟨g,o,none⟩:=by injection hv
 refine ⟨g,o,hfa, ?_⟩;rw [World.cell?_of_block (w:=w0) (a:=⟨g,o+i,none⟩) (h.block g hg qg)]
 simpa using hc 0 _ rfl
open Go.RowKit Go.ChangeMaps
/-! ### what a map holds behind a store -/
def DE{κ:Type}[DecidableEq κ](k:κ)(v:Value)(c:Nat):List (Ls κ)→List (Ls κ)
 | []=> [⟨k,v,c⟩]
 |e::l=>if k=e.key then {e with val:=v}::l else e::DE k v c l
theorem Wk{κ:Type}[DecidableEq κ](k:κ):∀(l:List (Ls κ)) (i:Nat),Ei k l (i+1)=(Ei k l i).map fun x=>(x.1+1,x.2)
 | [],_=>rfl
 | e::l,i=>by
   unfold Ei
   split
   ·rfl
   exact Wk k l (i+1)
theorem IZ{κ:Type}[DecidableEq κ](k:κ)(v:Value)(c:Nat):∀l:List (Ls κ),(Cw k v c l).1=DE k v c l
 | []=>rfl
 | e::l=>by
   have ih:=IZ k v c l;unfold Cw at ih⊢;unfold DE Ei
   by_cases h:k=e.key
   ·simp [h]
   rw [if_neg h,if_neg h,Wk]
   cases h2:Ei k l 0 with
   |none=>rw [h2] at ih;simpa using ih
   |some x=>rw [h2] at ih;simpa using ih
theorem Zd{κ:Type}[DecidableEq κ](k s:κ)(v:Value)(c:Nat):∀l:List (Ls κ),Ma s (Cw k v c l).1=if s=k then some v else Ma s l:=by
 intro l;rw [IZ]
 induction l with
 |nil=>
  unfold DE;rw [Jk]
 | cons e l ih=>
  unfold DE
  by_cases h:k=e.key
  ·rw [if_pos h,Jk,Jk]
   by_cases h2:s=e.key
   ·simp [h2,h]
   have:¬s=k:=fun h3=>h2 (h3.trans h)
   simp [h2,this]
  rw [if_neg h,Jk,Jk,ih]
  by_cases h2:s=e.key
  ·have:¬s=k:=fun h3=>h (h3.symm.trans h2)
   simp [h2];intro h3;exact absurd h3.symm h
  simp [h2]
def Ex(W:World)(b:Nat)(f:Ae→Nat):Prop:=∃es k,W.heap[b]? =some (.map (Cm Cn es) k)∧∀t,(Ma t es).getD (.int .i64 0)= .int .i64 (f t:Nat)
theorem Ex.keep{w w':World}{b:Nat}{f:Ae→Nat}{fp:List Nat}(h:Ex w b f)(hk:Ac fp w w')(hb:b∉fp):Ex w' b f:=by
 exact qoe
theorem Ex.lt{w:World}{b:Nat}{f:Ae→Nat}(h:Ex w b f):b<w.heap.size:=by obtain ⟨_,_,h1,_⟩:=h;exact Ad h1
theorem Ex.put{w':World}{b:Nat}{f:Ae→Nat}{t:Ae}{n:Nat}{es:List (Ls Ae)}{k:Nat}(he:∀t,(Ma t es).getD (.int .i64 0)= .int .i64 (f t:Nat))(hb:w'.heap[b]? =some (.map (Cm Cn (Cw t (.int .i64 n) k es).1) (Cw t (.int .i64 n) k es).2)):Ex w' b (fun s=>if s=t then n else f s):=by
 refine ⟨_,_,hb,fun s=> ?_⟩;rw [Zd]
 by_cases h:s=t
 ·simp [h]
 simp [h,he]
/-! ### a range over a set -/
def Fr(W:World)(r b:Nat)(l p:List Ae)(n:Nat):Prop:=
 ∃(es ps qs:List (Ls Ae)) (k:Nat),W.heap[b]? =some (.map (Cm Cn es) k)∧MP es k l∧W.heap[r]? =some (.mapIter (some b) k (ps.map (·.born)).toArray k)∧(ps++qs).Perm es∧p=ps.map (·.key)∧n=qs.length
theorem Fr.keep{w w':World}{r b:Nat}{l p:List Ae}{n:Nat}{fp:List Nat}(h:Fr w r b l p n)(hk:Ac fp w w')(hb:b∉fp)(hr:r∉fp):Fr w' r b l p n:=by
 obtain ⟨es,ps,qs,k,h1,h2,h3,h4⟩:=h;exact ⟨es,ps,qs,k,hk.at h1 hb,h2,hk.at h3 hr,h4⟩
theorem Fr.lt{w:World}{r b:Nat}{l p:List Ae}{n:Nat}(h:Fr w r b l p n):r<w.heap.size∧b<w.heap.size:=by
 obtain ⟨es,ps,qs,k,h1,h2,h3,h4⟩:=h;exact ⟨Ad h3,Ad h1⟩
theorem Fr.start{w:World}{b:Nat}{l:List Ae}(h:ER w b l){t e:TypeId}{T:TypeId}(hT:Tryz.prog.underlying T=some (.map t e)):∃w',(Instr.range T (.map (some b))).run Tryz.prog w= .ok (.pointer (some ⟨w.heap.size,0,none⟩)) w'∧Ac [] w w'∧w'.heap.size=w.heap.size+1∧Fr w' w.heap.size b l [] l.length:=by
 obtain ⟨es,k,h1,h2⟩:=h;refine ⟨_,run_range_map w T t e b _ k hT h1,kA (k0 [] w) _,by simp,es,[],es,k, ?_,h2, ?_,by simp,rfl, ?_⟩
 ·rw [heap_alloc_old w _ (Ad h1),h1]
 ·rw [heap_alloc_new];rfl
 have:=congrArg List.length h2.1
 simpa using this.symm
theorem MP.keys{es:List (Ls Ae)}{k:Nat}{l:List Ae}(h:MP es k l):es.map (·.key)=l:=by
 have:=congrArg (List.map Prod.fst) h.1
 simpa [List.map_map,Function.comp_def] using this
theorem Zm(es:List (Ls Ae)):((Cm Cn es).toList.map (·.born))=es.map (·.born):=by simp [Cm,Function.comp_def]
theorem Fr.next{w:World}{r b:Nat}{l p:List Ae}{n:Nat}(h:Fr w r b l p n)(ty:TypeId):(p.Perm l∧(Instr.next (.pointer (some ⟨r,0,none⟩)) false ty).run Tryz.prog w= .ok (.tuple #[.bool false]) w)∨∃(t:Ae) (m:Nat) (w':World),t∈l∧n=m+1∧(Instr.next (.pointer (some ⟨r,0,none⟩)) false ty).run Tryz.prog w= .ok (.tuple #[.bool true,.agg #[.int .i64 t.1,.string t.2],.agg #[]]) w'∧Ac [r] w w'∧w'.heap.size=w.heap.size∧Fr w' r b l (p++ [t]) m:=by
 obtain ⟨es,ps,qs,k,h1,h2,h3,h4,rfl,rfl⟩:=h
 have hborn:∀x∈(Cm Cn es).toList,x.born<k:=fun x hx=>by
  have:x.born∈(Cm Cn es).toList.map (·.born):=List.mem_map.2 ⟨x,hx,rfl⟩;rw [Zm] at this;obtain ⟨e,he,hb⟩:=List.mem_map.1 this;rw [←hb];exact h2.2.2 e he
 have hnd:((ps++qs).map (·.born)).Nodup:=(h4.map (·.born)).nodup_iff.2 h2.2.1
 rcases run_next_at (P:=Tryz.prog) w ty r b k k _ _ k h3 h1 hborn (Nat.le_refl _) with ⟨h0,hrun⟩|⟨x,hx,w1,hw1,hrun⟩
 ·refine .inl ⟨?_,hrun⟩
  have hq:qs= []:=by
   cases qs with
   |nil=>rfl
   | cons e qs=>
    exfalso
    have hm:e∈es:=h4.subset qg
    have hn:e.born∉ps.map (·.born):=by
     simp only [List.map_append,List.map_cons] at hnd;intro hc;exact (List.nodup_append.1 hnd).2.2 _ hc _ (List.mem_cons_self ..) rfl
    have:(⟨Cn e.key,e.val,e.born⟩:MapEntry)∈leftOf (Cm Cn es) (ps.map (·.born)).toArray:=by
     unfold leftOf;rw [Array.mem_filter];refine ⟨?_, ?_⟩
     ·simp only [Cm,List.mem_toArray,List.mem_map];exact ⟨e,hm,rfl⟩
     simpa using hn
    rw [Array.eq_empty_of_size_eq_zero h0] at this;simp at this
  subst hq;rw [List.append_nil] at h4;rw [←h2.keys];exact h4.map _
 right
 have hx2:x∈leftOf (Cm Cn es) (ps.map (·.born)).toArray:=by simpa using hx
 unfold leftOf at hx2;rw [Array.mem_filter] at hx2;obtain ⟨hxm,hxn⟩:=hx2;simp only [Cm,List.mem_toArray,List.mem_map] at hxm;obtain ⟨e,hem,rfl⟩:=hxm;have hen:e.born∉ps.map (·.born):=by simpa using hxn
 have heq:e∈qs:=by
  have:=h4.symm.subset hem
  rcases List.mem_append.1 this with h|h
  ·exact absurd (List.mem_map.2 ⟨e,h,rfl⟩) hen
  exact h
 obtain ⟨a,c,rfl⟩:=List.append_of_mem heq
 have hv:e.val= .agg #[]:=by
  exact qme
 have hw1h:w1.heap=w.heap:=by rcases hw1 with rfl|rfl<;>rfl
 have hrl:r<w.heap.size:=Ad h3;have hbl:b<w.heap.size:=Ad h1;have hne:b≠r:=fun hc=>by subst hc;rw [h1] at h3;cases h3
 refine ⟨e.key,a.length+c.length,_, ?_,by simp;omega,by rw [hv] at hrun;exact hrun, ?_, ?_,es,ps++ [e],a++c,k, ?_,h2, ?_, ?_,by simp,by simp⟩
 ·rw [←h2.keys];exact List.mem_map.2 ⟨e,hem,rfl⟩
 ·rcases hw1 with rfl|rfl
  ·exact ⟨rfl,rfl,rfl,by simp [setBlock],fun j hj hn=>by simp at hn;simp [setBlock,Array.getElem?_setIfInBounds,Ne.symm hn]⟩
  exact ⟨rfl,rfl,rfl,by simp [setBlock],fun j hj hn=>by simp at hn;simp [setBlock,Array.getElem?_setIfInBounds,Ne.symm hn];rfl⟩
 ·simp [setBlock,hw1h]
 ·simp [setBlock,hw1h,Ne.symm hne,h1]
 ·simp [setBlock,hw1h,hrl]
 refine List.Perm.trans ?_ h4;simp only [List.append_assoc,List.cons_append,List.nil_append];exact (List.perm_middle.symm).append_left ps
theorem JF{K:Ba}(hK:Dp K){T:Nat→Prop}{ua:Option Addr}{uc:Nat}{st:NS}{w:World}(h:CK K T ua uc st w)(re im:Nat)(e:Int)(h0:(st.e==0)=true):Calls Tryz.prog 42 #[.pointer (some ⟨K.c,0,none⟩),.complex .f64 re im,.int .i64 e] w fun r w'=>r= .returned (.tuple #[])∧CK K T ua uc ({st with re:=re,im:=im,e:=e}) w'∧Ak K T T w w':=by
 have HC0:=zh h;have HS0:=zh (Ak.refl K T w);clear h
 go_enter Tryz.func42,Tryz.ntmps42
 obtain ⟨l_c,xc⟩:=Cp HC0.1.row;obtain ⟨-,l_mf,l_ms,l_mn⟩:=HC0.1.lt
 go_wp2_with fail
 refine Cq (v:= .tuple #[]) (fun W=>Ac [K.c] w W∧W.heap[K.c]? =some (.cells #[.slice K.ra K.g.rules.length K.rc,.slice K.fa K.g.funcs.length K.fc,.map (some K.mf),.int .i64 st.fn,.int .i64 st.rule,.int .i64 st.loops,.slice ua st.uses.length uc,.map (some K.ms),.map (some K.mn),.complex .f64 re im,.int .i64 e] 70 (0,0))) ⟨jg,(zc HC0.1.row l_c)⟩ (fun w1 hW=> ?_) rfl (fun w1 hW=> ?_)
 ·obtain ⟨Kw1,cw1_c⟩:=hW;exact Le
 obtain ⟨Kw1,cw1_c⟩:=hW;have HCw1:Hd (CK K T ua uc ({st with re:=re,im:=im,e:=e}) w1):=zh (HC0.1.upd hK Kw1 cw1_c qg qg qg qg qg rfl rfl rfl HC0.1.fn HC0.1.loops);have HSw1:=zh (HS0.1.loc Kw1 XJ);clear Kw1 cw1_c l_c xc l_mf l_ms l_mn HC0 HS0;exact ⟨rfl,HCw1.1,HSw1.1⟩
theorem JG{K:Ba}(hK:Dp K){T:Nat→Prop}{ua:Option Addr}{uc:Nat}{st:NS}{w:World}(h:CK K T ua uc st w)(re im:Nat)(e:Int)(h0:(st.e==0)=false):Calls Tryz.prog 42 #[.pointer (some ⟨K.c,0,none⟩),.complex .f64 re im,.int .i64 e] w fun r w'=>r= .returned (.tuple #[])∧CK K T ua uc (st) w'∧Ak K T T w w':=by
 have HC0:=zh h;have HS0:=zh (Ak.refl K T w);clear h
 go_enter Tryz.func42,Tryz.ntmps42
 obtain ⟨l_c,xc⟩:=Cp HC0.1.row;obtain ⟨-,l_mf,l_ms,l_mn⟩:=HC0.1.lt
 go_wp2_with fail
 refine Cq (v:= .tuple #[]) (fun W=>Ac [] w W) jg (fun w1 hW=> ?_) rfl (fun w1 hW=> ?_)
 ·have Kw1:Ac [] w w1:=hW;exact Le
 have Kw1:Ac [] w w1:=hW;have HCw1:=zh (HC0.1.kp0 Kw1);have HSw1:=zh (HS0.1.loc Kw1 qg);clear Kw1 l_c xc l_mf l_ms l_mn HC0 HS0;exact ⟨rfl,HCw1.1,HSw1.1⟩
theorem Hv{K:Ba}(hK:Dp K){T:Nat→Prop}{ua:Option Addr}{uc:Nat}{st:NS}{w:World}(h:CK K T ua uc st w)(re im:Nat)(e:Int):Calls Tryz.prog 42 #[.pointer (some ⟨K.c,0,none⟩),.complex .f64 re im,.int .i64 e] w fun r w'=>∃T' ua' uc',r= .returned (.tuple #[])∧CK K T' ua' uc' (Al st re im e) w'∧Ak K T T' w w':=by
 unfold Al
 by_cases h0:st.e=0
 ·rw [if_pos h0];exact (JF hK h re im e YI).mono fun _ _ ⟨h1,h2,h3⟩=>⟨_,_,_,h1,h2,h3⟩
 rw [if_neg h0];exact (JG hK h re im e YI).mono fun _ _ ⟨h1,h2,h3⟩=>⟨_,_,_,h1,h2,h3⟩
theorem TT{K:Ba}(hK:Dp K){T:Nat→Prop}{ua:Option Addr}{uc:Nat}{st:NS}{w:World}(h:CK K T ua uc st w)(kd:Int)(tx:ByteArray)(fm:Nat)(na:Option Addr)(nl nc re im:Nat){v:Int}(hv:v=(flook K.g tx:Nat))(hv0:0<v):Calls Tryz.prog 74 #[.pointer (some ⟨K.c,0,none⟩),.agg #[.int .i64 kd,.string tx,.float .f64 fm,.slice na nl nc,.complex .f64 re im]] w fun r w'=>∃T' ua' uc',r= .returned (.tuple #[])∧CK K T' ua' uc' (Al st re im 28) w'∧Ak K T T' w w':=by
 skip
 have HC0:=zh h;have HS0:=zh (Ak.refl K T w);have HV:=zh hv;clear h hv
 go_enter Tryz.func74,Tryz.ntmps74
 obtain ⟨l_c,l_mf,l_ms,l_mn⟩:=HC0.1.lt
 go_upto_region 1 with fail
 refine jac ?_;rintro w1 ⟨Kw1,cw1_B⟩;have ⟨n_c_B,n_B_c⟩:=Ai l_c;have ⟨n_mf_B,n_B_mf⟩:=Ai l_mf;have ⟨n_ms_B,n_B_ms⟩:=Ai l_ms;have ⟨n_mn_B,n_B_mn⟩:=Ai l_mn;have o_B:w.heap.size≤w.heap.size:=Nat.le_refl _;have off_B:Fu K T (w.heap.size):=Ao HC0.1 (Nat.le_refl _);have o0_B:K.w0.heap.size≤w.heap.size:=Nat.le_trans HC0.1.keep.size (Nat.le_refl _);have HCw1:=zh (HC0.1.kp0 Kw1);have HSw1:=zh (HS0.1.loc Kw1 qg);have Rw1_B:=zh cw1_B;clear Kw1 cw1_B l_c l_mf l_ms l_mn HC0 HS0;obtain ⟨l_c,xc⟩:=Cp HCw1.1.row;obtain ⟨-,l_mf,l_ms,l_mn⟩:=HCw1.1.lt;obtain ⟨l_B,xB⟩:=Bv Rw1_B.1;have hlk:=HCw1.1.flook' tx HV.1
 go_cut [11] (fun s11 W=>s11= .bool true∧Ac [] w1 W)
 case first=>
  exact RV
 obtain ⟨rfl,hk⟩:=hcut;generalize wc=w2 at*
 have Rw2_B:=zh (hk.at Rw1_B.1 qg);have HCw2:=zh (HCw1.1.kp0 hk);have HSw2:=zh (HSw1.1.loc hk qg);clear hk Rw1_B HCw1 HSw1 l_c xc l_B xB l_mf l_ms l_mn;obtain ⟨l_c,l_mf,l_ms,l_mn⟩:=HCw2.1.lt;obtain ⟨l_B,xB⟩:=Bv Rw2_B.1
 go_wp2_with fail
 clear l_c l_B xB l_mf l_ms l_mn;refine (Hv hK HCw2.1 re im 28).mono ?_;rintro r e3 ⟨T3,ua3,uc3,rfl,hc,hs⟩;have off2_B:=hs.off (Ad Rw2_B.1) off_B;have Re3_B:=zh (hs.at Rw2_B.1 off_B);have off_B':=off2_B;have HCe3:=zh hc;have HSe3:=zh (HSw2.1.trans hs);clear Rw2_B off_B HCw2 HSw2 hc hs;have off_B:=off_B';clear off_B' off2_B;obtain ⟨l_c,l_mf,l_ms,l_mn⟩:=HCe3.1.lt;have l_B:=Ad Re3_B.1
 go_wp2_with fail
 refine Cq (v:= .tuple #[]) (fun W=>Ac [] e3 W) jg (fun w4 hW=> ?_) rfl (fun w4 hW=> ?_)
 ·have Kw4:Ac [] e3 w4:=hW;exact Le
 have Kw4:Ac [] e3 w4:=hW;have Rw4_B:=zh (Kw4.at Re3_B.1 qg);have HCw4:=zh (HCe3.1.kp0 Kw4);have HSw4:=zh (HSe3.1.loc Kw4 qg);clear Kw4 l_c l_B l_mf l_ms l_mn Re3_B HCe3 HSe3;exact ⟨_,_,_,rfl,HCw4.1,HSw4.1⟩
theorem TU{K:Ba}(hK:Dp K){T:Nat→Prop}{ua:Option Addr}{uc:Nat}{st:NS}{w:World}(h:CK K T ua uc st w)(kd:Int)(tx:ByteArray)(fm:Nat)(na:Option Addr)(nl nc re im:Nat){v:Int}(hv:v=(flook K.g tx:Nat))(hv0:v=0):Calls Tryz.prog 74 #[.pointer (some ⟨K.c,0,none⟩),.agg #[.int .i64 kd,.string tx,.float .f64 fm,.slice na nl nc,.complex .f64 re im]] w fun r w'=>∃T' ua' uc',r= .returned (.tuple #[])∧CK K T' ua' uc' (st) w'∧Ak K T T' w w':=by
 subst hv0;have HC0:=zh h;have HS0:=zh (Ak.refl K T w);have HV:=zh hv;clear h hv
 go_enter Tryz.func74,Tryz.ntmps74
 obtain ⟨l_c,l_mf,l_ms,l_mn⟩:=HC0.1.lt
 go_upto_region 1 with fail
 refine jac ?_;rintro w1 ⟨Kw1,cw1_B⟩;have ⟨n_c_B,n_B_c⟩:=Ai l_c;have ⟨n_mf_B,n_B_mf⟩:=Ai l_mf;have ⟨n_ms_B,n_B_ms⟩:=Ai l_ms;have ⟨n_mn_B,n_B_mn⟩:=Ai l_mn;have o_B:w.heap.size≤w.heap.size:=Nat.le_refl _;have off_B:Fu K T (w.heap.size):=Ao HC0.1 (Nat.le_refl _);have o0_B:K.w0.heap.size≤w.heap.size:=Nat.le_trans HC0.1.keep.size (Nat.le_refl _);have HCw1:=zh (HC0.1.kp0 Kw1);have HSw1:=zh (HS0.1.loc Kw1 qg);have Rw1_B:=zh cw1_B;clear Kw1 cw1_B l_c l_mf l_ms l_mn HC0 HS0;obtain ⟨l_c,xc⟩:=Cp HCw1.1.row;obtain ⟨-,l_mf,l_ms,l_mn⟩:=HCw1.1.lt;obtain ⟨l_B,xB⟩:=Bv Rw1_B.1;have hlk:=HCw1.1.flook' tx HV.1
 go_cut [11] (fun s11 W=>s11= .bool false∧Ac [] w1 W)
 case first=>
  exact RV
 obtain ⟨rfl,hk⟩:=hcut;generalize wc=w2 at*
 have Rw2_B:=zh (hk.at Rw1_B.1 qg);have HCw2:=zh (HCw1.1.kp0 hk);have HSw2:=zh (HSw1.1.loc hk qg);clear hk Rw1_B HCw1 HSw1 l_c xc l_B xB l_mf l_ms l_mn;obtain ⟨l_c,l_mf,l_ms,l_mn⟩:=HCw2.1.lt;have l_B:=Ad Rw2_B.1
 go_wp2_with fail
 refine Cq (v:= .tuple #[]) (fun W=>Ac [] w2 W) jg (fun w3 hW=> ?_) rfl (fun w3 hW=> ?_)
 ·have Kw3:Ac [] w2 w3:=hW;exact Le
 have Kw3:Ac [] w2 w3:=hW;have Rw3_B:=zh (Kw3.at Rw2_B.1 qg);have HCw3:=zh (HCw2.1.kp0 Kw3);have HSw3:=zh (HSw2.1.loc Kw3 qg);clear Kw3 l_c l_B l_mf l_ms l_mn Rw2_B HCw2 HSw2;exact zbc
theorem Od{K:Ba}(hK:Dp K){T:Nat→Prop}{ua:Option Addr}{uc:Nat}{st:NS}{w:World}(h:CK K T ua uc st w){S:Nat→Prop}{W:World}{n:Af}{v:Value}(hn:Au W S n v):Calls Tryz.prog 74 #[.pointer (some ⟨K.c,0,none⟩),v] w fun r w'=>∃T' ua' uc',r= .returned (.tuple #[])∧CK K T' ua' uc' (Bi K.g st n) w'∧Ak K T T' w w':=by
 cases hn with
 |mk hk=>
  obtain ⟨a,l,c,rfl⟩:=hk.slice;unfold Bi
  split
  ·rename_i h0;simp only [Af.name] at h0;exact TT hK h _ _ _ _ _ _ _ _ rfl jh
  rename_i h0;simp only [Af.name] at h0;exact TU hK h _ _ _ _ _ _ _ _ rfl jh
end Go.Proofs.YtkfillfkbhbbjaaGreatDoor
