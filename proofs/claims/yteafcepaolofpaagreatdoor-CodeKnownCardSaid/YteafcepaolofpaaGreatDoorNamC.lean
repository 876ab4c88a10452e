/- Texts of this claim, joined: CK, NamB, NamC. -/
import Derived.Test.YteafcepaolofpaaGreatDoorNamA
set_option maxRecDepth 100000
set_option maxHeartbeats 4000000
set_option linter.unusedSimpArgs false
set_option linter.unusedVariables false
set_option linter.unusedSectionVars false
section
/- names' checker in memory. -/
namespace Go.Proofs.YteafcepaolofpaaGreatDoor
open Go.RowKit

/-! ### uses as elements -/
def UseE(_:World)(_:Nat→Prop)(u:Use)(c:List Value):Prop:=
  c= [.complex .f64 u.re u.im,.int .i64 u.of.1,.string u.of.2,.bool u.array,.int .i64 u.param.1,.string u.param.2,.bool u.kid,.bool u.bad]
theorem useL:ElemL UseE 8:={
  keep:=fun h _ _ _=>h
  len:=fun h=>by rw [h];rfl
  one:=fun h u hu=>by rw [h] at hu;simp at hu;rcases hu with rfl|rfl|rfl|rfl|rfl|rfl|rfl|rfl<;>rfl
  }
theorem info106:∃i,Tryz.prog.info? 141=some i∧i.zero=some (.agg #[.complex .f64 0 0,.int .i64 0,.string ⟨#[]⟩,.bool false,.int .i64 0,.string ⟨#[]⟩,.bool false,.bool false])∧i.size=8∧i.bytes=80:=by
  have h:(Tryz.prog.info? 141).map (fun i=>(i.zero,i.size,i.bytes))=some (some (.agg #[.complex .f64 0 0,.int .i64 0,.string ⟨#[]⟩,.bool false,.int .i64 0,.string ⟨#[]⟩,.bool false,.bool false]),8,80):=by kernel_rfl
  cases hi:Tryz.prog.info? 141 with
  |none=>rw [hi] at h;cases h
  |some i=>rw [hi] at h;simp at h;exact ⟨i,rfl,h.1,h.2.1,h.2.2⟩

/-! ### maps as lists -/
/-- Block b is a map from things to things. -/
def MapT(w:World)(b:Nat)(l:List (Thing×Thing)):Prop:=∃es k,w.heap[b]? =some (.map (ents tval es) k)∧es.map (fun e=>(e.key,e.val))=l.map (fun x=>(x.1,tval x.2))
/-- Block b is a set of things. -/
def SetL(es:List (Ent Thing))(k:Nat)(l:List Thing):Prop:=es.map (fun e=>(e.key,e.val))=l.map (fun x=>(x,.agg #[]))∧(es.map (·.born)).Nodup∧∀e∈es,e.born<k
def SetT(w:World)(b:Nat)(l:List Thing):Prop:=∃es k,w.heap[b]? =some (.map (ents tval es) k)∧SetL es k l
/-- Block b is the map of the functions' numbers. -/
def MapF(w:World)(b:Nat)(g:ProgP):Prop:=∃(es:List (Ent ByteArray)) (k:Nat),w.heap[b]? =some (.map (ents (fun s=>Value.string s) es) k)∧∀s,(kval s es).getD (.int .i64 0)= .int .i64 (flook g s:Nat)

theorem klook_shift{κ:Type}[DecidableEq κ](k:κ):∀(l:List (Ent κ)) (i j:Nat),(klook k l i).map (·.2)=(klook k l j).map (·.2)
  | [],_,_=>rfl
  | e::l,i,j=>by
    unfold klook
    split
    · rfl
    · exact klook_shift k l _ _
theorem kval_cons{κ:Type}[DecidableEq κ](k:κ)(e:Ent κ)(l:List (Ent κ)):kval k (e::l)=if k=e.key then some e.val else kval k l:=by
  unfold kval
  conv=>lhs;unfold klook
  split
  · rfl
  · exact klook_shift k l _ _
theorem teq_iff{a b:Thing}:teq a b=true↔a=b:=by
  obtain ⟨x,y⟩:=a;obtain ⟨x2,y2⟩:=b
  unfold teq
  simp only [Bool.and_eq_true,beq_iff_eq,Prod.mk.injEq]
  exact ⟨fun ⟨h1,h2⟩=>⟨h1,same_iff.1 h2⟩,fun ⟨h1,h2⟩=>⟨h1,same_iff.2 h2⟩⟩
theorem kval_alook(k:Thing):∀{es:List (Ent Thing)} {l:List (Thing×Thing)},es.map (fun e=>(e.key,e.val))=l.map (fun x=>(x.1,tval x.2))→kval k es=(alook k l).map tval
  | [],[],_=>rfl
  | e ::es,x::l,h=>by
    simp only [List.map_cons,List.cons.injEq,Prod.mk.injEq] at h
    obtain ⟨⟨h1,h2⟩,h3⟩:=h
    rw [kval_cons]
    unfold alook
    by_cases hk:k=e.key
    · rw [if_pos hk,if_pos (teq_iff.2 (hk.trans h1)),h2];rfl
    · rw [if_neg hk,if_neg (fun h=>hk ((teq_iff.1 h).trans h1.symm))]
      exact kval_alook k h3
  | [],_::_,h=>by simp at h
  |_::_,[],h=>by simp at h
theorem tmem_iff{t:Thing}:∀{l:List Thing},tmem t l=true↔t∈l
  | []=>by simp [tmem]
  | x ::l=>by
    unfold tmem
    by_cases h:teq t x=true
    · rw [if_pos h];simp [teq_iff.1 h]
    · rw [if_neg h,tmem_iff,List.mem_cons]
      exact ⟨.inr,fun h2=>h2.resolve_left fun h3=>h (teq_iff.2 h3)⟩
theorem klook_none_iff{κ:Type}[DecidableEq κ]{k:κ}:∀{l:List (Ent κ)} {i:Nat},klook k l i=none↔k∉l.map (·.key)
  | [],_=>by simp [klook]
  | e::l,i=>by
    unfold klook
    by_cases h:k=e.key
    · simp [h]
    · rw [if_neg h,klook_none_iff];simp [h]
theorem SetT.put{w':World}{b:Nat}{l:List Thing}{t:Thing}{es:List (Ent Thing)}{k:Nat}(he0:SetL es k l)
    (hb:w'.heap[b]? =some (.map (ents tval (kput t (.agg #[]) k es).1) (kput t (.agg #[]) k es).2)):SetT w' b (if tmem t l then l else l++ [t]):=by
  obtain ⟨he,hbn,hbl⟩:=he0
  have hkeys:es.map (·.key)=l:=by
    have:=congrArg (List.map Prod.fst) he
    simpa [List.map_map,Function.comp_def] using this
  refine ⟨_,_,hb, ?_⟩
  unfold kput
  cases h:klook t es 0 with
  | none=>
    have hn:t∉l:=by rw [←hkeys];exact klook_none_iff.1 h
    rw [if_neg (fun h2=>hn (tmem_iff.1 h2))]
    refine ⟨by simp [he], ?_,fun e hm=> ?_⟩
    · simp only [List.map_append,List.map_cons,List.map_nil]
      rw [List.nodup_append]
      refine ⟨hbn,by simp,fun x hx y hy hxy=> ?_⟩
      obtain ⟨e,hm,rfl⟩:=List.mem_map.1 hx
      have:=hbl e hm
      simp at hy
      omega
    · rcases List.mem_append.1 hm with hm|hm
      · exact Nat.lt_succ_of_lt (hbl e hm)
      · simp at hm;subst hm;exact Nat.lt_succ_self k
  | some x=>
    obtain ⟨i,v⟩:=x
    have hm:t∈l:=by
      rw [←hkeys]
      exact Classical.byContradiction fun hn=>by rw [klook_none_iff.2 hn] at h;cases h
    have hv:∀e∈es,e.val= .agg #[]:=fun e hm=>by
      have:(e.key,e.val)∈es.map (fun e=>(e.key,e.val)):=List.mem_map.2 ⟨e,hm,rfl⟩
      rw [he] at this
      obtain ⟨x,_,hx⟩:=List.mem_map.1 this
      exact (Prod.mk.inj hx).2.symm
    have hsame:es.modify i (fun e=>{e with val:= .agg #[]})=es:=by
      apply List.ext_getElem?
      intro j
      simp only [List.getElem?_modify]
      cases hj:es[j]? with
      |none=>simp
      | some e=>
        have:=hv e (List.mem_of_getElem? hj)
        by_cases hij:i=j
        · simp [hij]
          cases e
          simp_all
        · simp [hij]
    rw [if_pos (tmem_iff.2 hm)]
    simp only [hsame]
    exact ⟨he,hbn,hbl⟩
theorem MapT.put{w':World}{b:Nat}{l:List (Thing×Thing)}{t u:Thing}{es:List (Ent Thing)}{k:Nat}(he:es.map (fun e=>(e.key,e.val))=l.map (fun x=>(x.1,tval x.2)))(hn:alook t l=none)
    (hb:w'.heap[b]? =some (.map (ents tval (kput t (tval u) k es).1) (kput t (tval u) k es).2)):MapT w' b (l++ [(t,u)]):=by
  refine ⟨_,_,hb, ?_⟩
  have h:klook t es 0=none:=by
    have:=kval_alook t he
    rw [hn] at this
    unfold kval at this
    cases h2:klook t es 0 with
    |none=>rfl
    |some x=>rw [h2] at this;cases this
  unfold kput
  rw [h]
  simp [he]

/-- What is fixed of a checker: where it lies, and what program it goes through. -/
structure CKey where
  g:ProgP
  w0:World
  c:Nat
  mf:Nat
  ms:Nat
  mn:Nat
  ra:Option Addr
  rc:Nat
  fa:Option Addr
  fc:Nat
structure CFix (K:CKey):Prop where
  rules:SliceR RuleE K.w0 (fun _=>True) K.g.rules (.slice K.ra K.g.rules.length K.rc)
  funcs:SliceR FuncE K.w0 (fun _=>True) K.g.funcs (.slice K.fa K.g.funcs.length K.fc)
  c:K.w0.heap.size≤K.c
  mf:K.w0.heap.size≤K.mf
  ms:K.w0.heap.size≤K.ms
  mn:K.w0.heap.size≤K.mn
  ne:K.c≠K.mf∧K.c≠K.ms∧K.c≠K.mn∧K.mf≠K.ms∧K.mf≠K.mn∧K.ms≠K.mn
  small:K.g.funcs.length≤1000000
  rsmall:K.g.rules.length≤1000000
  psmall:∀f∈K.g.funcs,f.params.length≤1000000
  tsmall:∀r∈K.g.rules,r.pats.length≤1000000
abbrev ckC(K:CKey)(st:NS)(ua:Option Addr)(uc:Nat):Obj:=
  .cells #[.slice K.ra K.g.rules.length K.rc,.slice K.fa K.g.funcs.length K.fc,.map (some K.mf),.int .i64 st.fn,.int .i64 st.rule,.int .i64 st.loops,.slice ua st.uses.length uc,.map (some K.ms),.map (some K.mn),.complex .f64 st.re st.im,.int .i64 st.e] 92 (0,0)
/-- The checker stands so; its uses lie in blocks of T. -/
structure CK (K:CKey) (T:Nat→Prop) (ua:Option Addr) (uc:Nat) (st:NS) (W:World):Prop where
  keep:Keeps [] K.w0 W
  row:W.heap[K.c]? =some (ckC K st ua uc)
  fns:MapF W K.mf K.g
  same:MapT W K.ms st.same
  seen:SetT W K.mn st.seen
  uses:OwnL UseE 141 8 W K.w0.heap.size T st.uses (.slice ua st.uses.length uc)
  up:∀x,T x→x<W.heap.size
  dn:∀x,T x→K.w0.heap.size≤x
  ns:¬T K.c∧¬T K.mf∧¬T K.ms∧¬T K.mn
  fn:st.fn≤K.g.funcs.length
  loops: -1000000≤st.loops∧st.loops≤1000000
theorem MapF.keep{w w':World}{b:Nat}{g:ProgP}{fp:List Nat}(h:MapF w b g)(hk:Keeps fp w w')(hb:b∉fp):MapF w' b g:=by
  obtain ⟨es,k,h1,h2⟩:=h;exact ⟨es,k,hk.at h1 hb,h2⟩
theorem MapT.keep{w w':World}{b:Nat}{l:List (Thing×Thing)}{fp:List Nat}(h:MapT w b l)(hk:Keeps fp w w')(hb:b∉fp):MapT w' b l:=by
  obtain ⟨es,k,h1,h2⟩:=h;exact ⟨es,k,hk.at h1 hb,h2⟩
theorem SetT.keep{w w':World}{b:Nat}{l:List Thing}{fp:List Nat}(h:SetT w b l)(hk:Keeps fp w w')(hb:b∉fp):SetT w' b l:=by
  obtain ⟨es,k,h1,h2⟩:=h;exact ⟨es,k,hk.at h1 hb,h2⟩
/-- Blocks that are none of the checker's may be turned. -/
theorem CK.kp{K:CKey}{T:Nat→Prop}{ua:Option Addr}{uc:Nat}{st:NS}{W W':World}{fp:List Nat}(h:CK K T ua uc st W)(hk:Keeps fp W W')(h0:∀x∈fp,K.w0.heap.size≤x)(hc:K.c∉fp)(hmf:K.mf∉fp)(hms:K.ms∉fp)(hmn:K.mn∉fp)(hT:∀x∈fp,¬T x):CK K T ua uc st W':=
  ⟨h.keep.trans hk (fun x hx=> .inr (h0 x hx)),hk.at h.row hc,h.fns.keep hk hmf,h.same.keep hk hms,h.seen.keep hk hmn,h.uses.kp useL hk hT,fun x hx=>Nat.lt_of_lt_of_le (h.up x hx) hk.size,h.dn,h.ns,h.fn,h.loops⟩
theorem CK.kp0{K:CKey}{T:Nat→Prop}{ua:Option Addr}{uc:Nat}{st:NS}{W W':World}(h:CK K T ua uc st W)(hk:Keeps [] W W'):CK K T ua uc st W':=h.kp hk (by simp) (by simp) (by simp) (by simp) (by simp) (by simp)
/-- The checker's own cells turned, but for its uses. -/
theorem CK.upd{K:CKey}(hK:CFix K){T:Nat→Prop}{ua:Option Addr}{uc:Nat}{st st':NS}{W W':World}{fp:List Nat}(h:CK K T ua uc st W)(hk:Keeps (K.c::fp) W W')(hr:W'.heap[K.c]? =some (ckC K st' ua uc))(h0:∀x∈fp,K.w0.heap.size≤x)(hmf:K.mf∉fp)(hms:K.ms∉fp)(hmn:K.mn∉fp)(hT:∀x∈fp,¬T x)
    (hs:st'.same=st.same) (hn:st'.seen=st.seen) (hu:st'.uses=st.uses) (hf:st'.fn≤K.g.funcs.length) (hl: -1000000≤st'.loops∧st'.loops≤1000000):CK K T ua uc st' W':=
  ⟨h.keep.trans hk (fun x hx=>by rcases List.mem_cons.1 hx with rfl|hx;exact .inr hK.c;exact .inr (h0 x hx)),hr,h.fns.keep hk (by simp [Ne.symm hK.ne.1,hmf]),hs▸h.same.keep hk (by simp [Ne.symm hK.ne.2.1,hms]),hn▸h.seen.keep hk (by simp [Ne.symm hK.ne.2.2.1,hmn]),
   by rw [hu];exact h.uses.kp useL hk (fun x hx=>by rcases List.mem_cons.1 hx with rfl|hx;exact h.ns.1;exact hT x hx),fun x hx=>Nat.lt_of_lt_of_le (h.up x hx) hk.size,h.dn,h.ns,hf,hl⟩

/-- What a step of the checker may turn: its own blocks. -/
def CStep(K:CKey)(T T':Nat→Prop)(W W':World):Prop:=
  (∀x,T' x→T x∨(W.heap.size≤x∧x<W'.heap.size))∧∃fl:List Nat,(∀x∈fl,x=K.c∨x=K.ms∨x=K.mn∨T x)∧Keeps fl W W'
theorem CStep.refl(K:CKey)(T:Nat→Prop)(W:World):CStep K T T W W:=⟨fun _ h=> .inl h,[],by simp,Keeps.refl _ _⟩
theorem CStep.size{K:CKey}{T T':Nat→Prop}{W W':World}(h:CStep K T T' W W'):W.heap.size≤W'.heap.size:=by obtain ⟨_,fl,_,hk⟩:=h;exact hk.size
theorem CStep.trans{K:CKey}{T T' T'':Nat→Prop}{W W' W'':World}(h:CStep K T T' W W')(k:CStep K T' T'' W' W''):CStep K T T'' W W'':=by
  have hs:=h.size
  have hs2:=k.size
  obtain ⟨h1,fl,h2,h3⟩:=h
  obtain ⟨k1,fl',k2,k3⟩:=k
  refine ⟨fun x hx=> ?_,fl++fl'.filter (fun x=>decide (x<W.heap.size)),fun x hx=> ?_, ?_⟩
  · rcases k1 x hx with h|h
    · exact (h1 x h).imp id fun h=>⟨h.1,Nat.lt_of_lt_of_le h.2 hs2⟩
    · exact .inr ⟨Nat.le_trans hs h.1,h.2⟩
  · rcases List.mem_append.1 hx with hx|hx
    · exact h2 x hx
    · obtain ⟨hx,hlt⟩:=List.mem_filter.1 hx
      simp at hlt
      rcases k2 x hx with h|h|h|h
      · exact .inl h
      · exact .inr (.inl h)
      · exact .inr (.inr (.inl h))
      · rcases h1 x h with h|h
        · exact .inr (.inr (.inr h))
        · exact absurd hlt (Nat.not_lt_of_le h.1)
  · refine (h3.weaken (fun x hx=> .inl (List.mem_append_left _ hx))).trans k3 fun x hx=> ?_
    by_cases hlt:x<W.heap.size
    · exact .inl (List.mem_append_right _ (List.mem_filter.2 ⟨hx,by simpa using hlt⟩))
    · exact .inr (Nat.not_lt.1 hlt)
/-- A block that is none of the checker's. -/
def Off(K:CKey)(T:Nat→Prop)(b:Nat):Prop:=b≠K.c∧b≠K.ms∧b≠K.mn∧¬T b
theorem CStep.at{K:CKey}{T T':Nat→Prop}{W W':World}(h:CStep K T T' W W'){b:Nat}{o:Obj}(hb:W.heap[b]? =some o)(ho:Off K T b):W'.heap[b]? =some o:=by
  obtain ⟨_,fl,h2,h3⟩:=h
  refine h3.at hb fun hm=> ?_
  rcases h2 b hm with h|h|h|h
  · exact ho.1 h
  · exact ho.2.1 h
  · exact ho.2.2.1 h
  · exact ho.2.2.2 h
theorem CStep.off{K:CKey}{T T':Nat→Prop}{W W':World}(h:CStep K T T' W W'){b:Nat}(hb:b<W.heap.size)(ho:Off K T b):Off K T' b:=
  ⟨ho.1,ho.2.1,ho.2.2.1,fun ht=>(h.1 b ht).elim ho.2.2.2 fun h2=>Nat.not_lt_of_le h2.1 hb⟩

theorem CK.lt{K:CKey}{T:Nat→Prop}{ua:Option Addr}{uc:Nat}{st:NS}{W:World}(h:CK K T ua uc st W):K.c<W.heap.size∧K.mf<W.heap.size∧K.ms<W.heap.size∧K.mn<W.heap.size:=by
  obtain ⟨_,_,h1,_⟩:=h.fns
  obtain ⟨_,_,h2,_⟩:=h.same
  obtain ⟨_,_,h3,_⟩:=h.seen
  exact ⟨h_lt h.row,h_lt h1,h_lt h2,h_lt h3⟩
/-- Own blocks turned, or the checker's cells. -/
theorem CStep.loc{K:CKey}{T0 T:Nat→Prop}{w W W':World}{fp:List Nat}(h:CStep K T0 T w W)(hk:Keeps fp W W')(hf:∀x∈fp,x=K.c∨w.heap.size≤x):CStep K T0 T w W':=by
  obtain ⟨h1,fl,h2,h3⟩:=h
  refine ⟨fun x hx=>(h1 x hx).imp id fun h=>⟨h.1,Nat.lt_of_lt_of_le h.2 hk.size⟩,K.c::fl,fun x hx=> ?_, ?_⟩
  · rcases List.mem_cons.1 hx with rfl|hx
    · exact .inl rfl
    · exact h2 x hx
  · refine (h3.weaken (fp':=K.c::fl) (fun x hx=> .inl (List.mem_cons_of_mem _ hx))).trans hk fun x hx=> ?_
    rcases hf x hx with rfl|h
    · exact .inl (List.mem_cons_self ..)
    · exact .inr h
theorem off_new{K:CKey}{T:Nat→Prop}{ua:Option Addr}{uc:Nat}{st:NS}{W:World}(h:CK K T ua uc st W){b:Nat}(hb:W.heap.size≤b):Off K T b:=by
  have hl:=h.lt
  exact ⟨fun e=>Nat.not_lt_of_le hb (e▸hl.1),fun e=>Nat.not_lt_of_le hb (e▸hl.2.2.1),fun e=>Nat.not_lt_of_le hb (e▸hl.2.2.2),fun ht=>Nat.not_lt_of_le hb (h.up b ht)⟩

/-- The number of a function of that name, looked up. -/
theorem CK.flook{K:CKey}{T:Nat→Prop}{ua:Option Addr}{uc:Nat}{st:NS}{W:World}(h:CK K T ua uc st W)(name:ByteArray){v:Int}(hv:v=(YteafcepaolofpaaGreatDoor.flook K.g name:Nat)):(Instr.lookup 87 (.map (some K.mf)) (.string name) false).run Tryz.prog W= .ok (.int .i64 v) W:=by
  obtain ⟨es,k,h1,h2⟩:=h.fns
  have:=run_klook (P:=Tryz.prog) (keyS Tryz.underlying9) Tryz.underlying87 (z:= .int .i64 0) (w:=W) (by simp [go_sem]) h1 name
  rw [this,h2 name,hv]
theorem CK.flook'{K:CKey}{T:Nat→Prop}{ua:Option Addr}{uc:Nat}{st:NS}{W:World}(h:CK K T ua uc st W)(name:ByteArray){v:Int}(hv:v=(YteafcepaolofpaaGreatDoor.flook K.g name:Nat)):(Instr.lookup 87 (.map (some K.mf)) (.string name) false).run Tryz.prog W.drew= .ok (.int .i64 v) W.drew:=
  (h.kp0 (Keeps.drew [] W)).flook name hv

theorem CK.look_some{K:CKey}{T:Nat→Prop}{ua:Option Addr}{uc:Nat}{st:NS}{W:World}(h:CK K T ua uc st W){a a':Nat}{b b':ByteArray}(hr:alook (a,b) st.same=some (a',b')):
    (Instr.lookup 88 (.map (some K.ms)) (.agg #[.int .i64 a,.string b]) true).run Tryz.prog W= .ok (.tuple #[.agg #[.int .i64 a',.string b'],.bool true]) W:=by
  obtain ⟨es,k,h1,h2⟩:=h.same
  have hz:(zeroValue 137).run Tryz.prog W= .ok (.agg #[.int .i64 0,.string ⟨#[]⟩]) W:=by simp [go_sem]
  have:=run_klook_ok (P:=Tryz.prog) keyT Tryz.underlying88 (w:=W) hz h1 (a,b)
  rw [kval_alook (a,b) h2,hr] at this
  exact this
theorem CK.look_none{K:CKey}{T:Nat→Prop}{ua:Option Addr}{uc:Nat}{st:NS}{W:World}(h:CK K T ua uc st W){a:Nat}{b:ByteArray}(hr:alook (a,b) st.same=none):
    (Instr.lookup 88 (.map (some K.ms)) (.agg #[.int .i64 a,.string b]) true).run Tryz.prog W= .ok (.tuple #[.agg #[.int .i64 0,.string ⟨#[]⟩],.bool false]) W:=by
  obtain ⟨es,k,h1,h2⟩:=h.same
  have hz:(zeroValue 137).run Tryz.prog W= .ok (.agg #[.int .i64 0,.string ⟨#[]⟩]) W:=by simp [go_sem]
  have:=run_klook_ok (P:=Tryz.prog) keyT Tryz.underlying88 (w:=W) hz h1 (a,b)
  rw [kval_alook (a,b) h2,hr] at this
  exact this

theorem FuncE.keep0{w w':World}{S:Nat→Prop}{f:FuncP}{c:List Value}(h:FuncE w S f c)(hk:Keeps [] w w'):FuncE w' S f c:=funcL.keep h hk (by simp) fun _ h=>h
/-- A function of the program, in whatever world of the checker's. -/
theorem CK.func{K:CKey}(hK:CFix K){T:Nat→Prop}{ua:Option Addr}{uc:Nat}{st:NS}{W:World}(h:CK K T ua uc st W){i:Nat}(hi:i<K.g.funcs.length):
    ∃ g o pa pc b0 b1 b2 b3 b4,K.fa=some ⟨g,o,none⟩∧W.cell? ⟨g,o+i*8,none⟩=some (.string K.g.funcs[i].name)∧W.cell? ⟨g,o+i*8+1,none⟩=some (.slice pa K.g.funcs[i].params.length pc)∧W.cell? ⟨g,o+i*8+2,none⟩=some b0∧W.cell? ⟨g,o+i*8+3,none⟩=some b1∧W.cell? ⟨g,o+i*8+4,none⟩=some b2∧W.cell? ⟨g,o+i*8+5,none⟩=some b3∧
      W.cell? ⟨g,o+i*8+6,none⟩=some b4∧W.cell? ⟨g,o+i*8+7,none⟩=some (.complex .f64 K.g.funcs[i].re K.g.funcs[i].im)∧SliceR StrE K.w0 (fun _=>True) K.g.funcs[i].params (.slice pa K.g.funcs[i].params.length pc)∧NodeR K.w0 (fun _=>True) K.g.funcs[i].body (.agg #[b0,b1,b2,b3,b4]):=by
  obtain ⟨g,o,cap,c,hv,-,hg,⟨pa,pc,b0,b1,b2,b3,b4,rfl,hp,hn⟩,hc⟩:=hK.funcs.get funcL hi
  have hc':∀j u,[.string K.g.funcs[i].name,.slice pa K.g.funcs[i].params.length pc,b0,b1,b2,b3,b4,.complex .f64 K.g.funcs[i].re K.g.funcs[i].im][j]? =some u→W.cell? ⟨g,o+i*8+j,none⟩=some u:=fun j u hj=>by
    rw [World.cell?_of_block (w:=K.w0) (a:=⟨g,o+i*8+j,none⟩) (h.keep.block g hg (by simp)),Nat.add_assoc];exact hc j u hj
  have hfa:K.fa=some ⟨g,o,none⟩:=by injection hv
  exact ⟨g,o,pa,pc,b0,b1,b2,b3,b4,hfa,hc' 0 _ rfl,hc' 1 _ rfl,hc' 2 _ rfl,hc' 3 _ rfl,hc' 4 _ rfl,hc' 5 _ rfl,hc' 6 _ rfl,hc' 7 _ rfl,hp,hn⟩
/-- A string of a slice of the program's. -/
theorem CK.str{K:CKey}{T:Nat→Prop}{ua:Option Addr}{uc:Nat}{st:NS}{W:World}(h:CK K T ua uc st W){l:List ByteArray}{a:Option Addr}{cap:Nat}(hs:SliceR StrE K.w0 (fun _=>True) l (.slice a l.length cap)){i:Nat}(hi:i<l.length):
    ∃g o,a=some ⟨g,o,none⟩∧W.cell? ⟨g,o+i,none⟩=some (.string l[i]):=by
  obtain ⟨g,o,cap,c,hv,-,hg,rfl,hc⟩:=hs.get strL hi
  have hfa:a=some ⟨g,o,none⟩:=by injection hv
  refine ⟨g,o,hfa, ?_⟩
  rw [World.cell?_of_block (w:=K.w0) (a:=⟨g,o+i,none⟩) (h.keep.block g hg (by simp))]
  have:=hc 0 _ rfl
  simpa using this
/-- A thing is seen. -/
theorem CK.see{K:CKey}(hK:CFix K){T:Nat→Prop}{ua:Option Addr}{uc:Nat}{st:NS}{W W':World}(h:CK K T ua uc st W)(t:Thing){es:List (Ent Thing)}{k:Nat}(he:SetL es k st.seen)(hk:Keeps [K.mn] W W')
    (hb:W'.heap[K.mn]? =some (.map (ents tval (kput t (.agg #[]) k es).1) (kput t (.agg #[]) k es).2)):CK K T ua uc (seePut st t) W':=
  ⟨h.keep.trans hk (by simp;exact hK.mn),hk.at h.row (by simp [hK.ne.2.2.1]),h.fns.keep hk (by simp [hK.ne.2.2.2.2.1]),h.same.keep hk (by simp [hK.ne.2.2.2.2.2]),SetT.put he hb,h.uses.kp useL hk (by simp;exact h.ns.2.2.2),fun x hx=>Nat.lt_of_lt_of_le (h.up x hx) hk.size,h.dn,h.ns,h.fn,h.loops⟩
theorem CStep.mn{K:CKey}{T0 T:Nat→Prop}{w W W':World}(h:CStep K T0 T w W)(hk:Keeps [K.mn] W W'):CStep K T0 T w W':=
  h.trans ⟨fun _ h=> .inl h,[K.mn],by simp,hk⟩
theorem run_see{K:CKey}{es:List (Ent Thing)}{k:Nat}{W:World}(hb:W.heap[K.mn]? =some (.map (ents tval es) k))(a:Nat)(b:ByteArray):
    (Instr.mapUpdate 89 (.map (some K.mn)) (.agg #[.int .i64 a,.string b]) (.agg #[])).run Tryz.prog W= .ok () (mset W K.mn (.map (ents tval (kput (a,b) (.agg #[]) k es).1) (kput (a,b) (.agg #[]) k es).2)):=
  run_kput (P:=Tryz.prog) keyT Tryz.underlying89 hb (a,b) (.agg #[])
end Go.Proofs.YteafcepaolofpaaGreatDoor
end
section
/- fault, walked. Made by a program (check.py, walk.py). -/
namespace Go.Proofs.YteafcepaolofpaaGreatDoor
open Go.RowKit

theorem fault_y{K:CKey}(hK:CFix K){T:Nat→Prop}{ua:Option Addr}{uc:Nat}{st:NS}{w:World}(h:CK K T ua uc st w)(re im:Nat)(e:Int)(h0:(st.e==0)=true):
    Calls Tryz.prog 64 #[.pointer (some ⟨K.c,0,none⟩),.complex .f64 re im,.int .i64 e] w fun r w'=>r= .returned (.tuple #[])∧CK K T ua uc ({st with re:=re,im:=im,e:=e}) w'∧CStep K T T w w':=by
  have HC0:=Lib.hid h;have HS0:=Lib.hid (CStep.refl K T w)
  clear h
  go_enter Tryz.func64,Tryz.ntmps64
  obtain ⟨l_c,xc_0,xc_1,xc_2,xc_3,xc_4,xc_5,xc_6,xc_7,xc_8,xc_9,xc_10,yc_0,yc_1,yc_2,yc_3,yc_4,yc_5,yc_6,yc_7,yc_8,yc_9,yc_10⟩:=cf11 HC0.out.row
  obtain ⟨-,l_mf,l_ms,l_mn⟩:=HC0.out.lt
  go_wp2_with fail
  refine end_at (v:= .tuple #[]) (fun W=>Keeps [K.c] w W∧W.heap[K.c]? =some (.cells #[.slice K.ra K.g.rules.length K.rc,.slice K.fa K.g.funcs.length K.fc,.map (some K.mf),.int .i64 st.fn,.int .i64 st.rule,.int .i64 st.loops,.slice ua st.uses.length uc,.map (some K.ms),.map (some K.mn),.complex .f64 re im,.int .i64 e] 92 (0,0))) ⟨(by with_reducible repeat (first|exact k0 _ _|refine kA ?_ _|refine kD ?_|refine kS ?_ (by simp)|refine kM ?_ (by simp))),(by simp only [hS,hA,hD,hM,reduceIte,Option.map_some,Obj.put,HC0.out.row,Nat.ne_of_lt l_c,Nat.ne_of_gt l_c]<;>rfl)⟩ (fun w1 hW=> ?_) rfl (fun w1 hW=> ?_)
  · obtain ⟨Kw1,cw1_c⟩:=hW
    simp [results,Tryz.results64,go_sem]
  · obtain ⟨Kw1,cw1_c⟩:=hW
    have HCw1:Hid (CK K T ua uc ({st with re:=re,im:=im,e:=e}) w1):=Lib.hid (HC0.out.upd hK Kw1 cw1_c (by simp) (by simp) (by simp) (by simp) (by simp) rfl rfl rfl HC0.out.fn HC0.out.loops)
    have HSw1:=Lib.hid (HS0.out.loc Kw1 (by simp []))
    clear Kw1 cw1_c l_c xc_0 xc_1 xc_2 xc_3 xc_4 xc_5 xc_6 xc_7 xc_8 xc_9 xc_10 yc_0 yc_1 yc_2 yc_3 yc_4 yc_5 yc_6 yc_7 yc_8 yc_9 yc_10 l_mf l_ms l_mn HC0 HS0
    exact ⟨rfl,HCw1.out,HSw1.out⟩

theorem fault_n{K:CKey}(hK:CFix K){T:Nat→Prop}{ua:Option Addr}{uc:Nat}{st:NS}{w:World}(h:CK K T ua uc st w)(re im:Nat)(e:Int)(h0:(st.e==0)=false):
    Calls Tryz.prog 64 #[.pointer (some ⟨K.c,0,none⟩),.complex .f64 re im,.int .i64 e] w fun r w'=>r= .returned (.tuple #[])∧CK K T ua uc (st) w'∧CStep K T T w w':=by
  have HC0:=Lib.hid h;have HS0:=Lib.hid (CStep.refl K T w)
  clear h
  go_enter Tryz.func64,Tryz.ntmps64
  obtain ⟨l_c,xc_0,xc_1,xc_2,xc_3,xc_4,xc_5,xc_6,xc_7,xc_8,xc_9,xc_10,yc_0,yc_1,yc_2,yc_3,yc_4,yc_5,yc_6,yc_7,yc_8,yc_9,yc_10⟩:=cf11 HC0.out.row
  obtain ⟨-,l_mf,l_ms,l_mn⟩:=HC0.out.lt
  go_wp2_with fail
  refine end_at (v:= .tuple #[]) (fun W=>Keeps [] w W) (by with_reducible repeat (first|exact k0 _ _|refine kA ?_ _|refine kD ?_|refine kS ?_ (by simp)|refine kM ?_ (by simp))) (fun w1 hW=> ?_) rfl (fun w1 hW=> ?_)
  · have Kw1:Keeps [] w w1:=hW
    simp [results,Tryz.results64,go_sem]
  · have Kw1:Keeps [] w w1:=hW
    have HCw1:=Lib.hid (HC0.out.kp0 Kw1)
    have HSw1:=Lib.hid (HS0.out.loc Kw1 (by simp))
    clear Kw1 l_c xc_0 xc_1 xc_2 xc_3 xc_4 xc_5 xc_6 xc_7 xc_8 xc_9 xc_10 yc_0 yc_1 yc_2 yc_3 yc_4 yc_5 yc_6 yc_7 yc_8 yc_9 yc_10 l_mf l_ms l_mn HC0 HS0
    exact ⟨rfl,HCw1.out,HSw1.out⟩

theorem fault_any{K:CKey}(hK:CFix K){T:Nat→Prop}{ua:Option Addr}{uc:Nat}{st:NS}{w:World}(h:CK K T ua uc st w)(re im:Nat)(e:Int):
    Calls Tryz.prog 64 #[.pointer (some ⟨K.c,0,none⟩),.complex .f64 re im,.int .i64 e] w fun r w'=>∃T' ua' uc',r= .returned (.tuple #[])∧CK K T' ua' uc' (faultF st re im e) w'∧CStep K T T' w w':=by
  unfold faultF
  by_cases h0:st.e=0
  · rw [if_pos h0]
    exact (fault_y hK h re im e (by simp [h0])).mono fun _ _ ⟨h1,h2,h3⟩=>⟨_,_,_,h1,h2,h3⟩
  · rw [if_neg h0]
    exact (fault_n hK h re im e (by simp [h0])).mono fun _ _ ⟨h1,h2,h3⟩=>⟨_,_,_,h1,h2,h3⟩
end Go.Proofs.YteafcepaolofpaaGreatDoor
end
section
/- named, walked. Made by a program (check.py, walk.py). -/
namespace Go.Proofs.YteafcepaolofpaaGreatDoor
open Go.RowKit

theorem named_y{K:CKey}(hK:CFix K){T:Nat→Prop}{ua:Option Addr}{uc:Nat}{st:NS}{w:World}(h:CK K T ua uc st w)(kd:Int)(tx:ByteArray)(fm:Nat)(na:Option Addr)(nl nc re im:Nat){v:Int}(hv:v=(flook K.g tx:Nat))(hv0:0<v):
    Calls Tryz.prog 106 #[.pointer (some ⟨K.c,0,none⟩),.agg #[.int .i64 kd,.string tx,.float .f64 fm,.slice na nl nc,.complex .f64 re im]] w fun r w'=>∃T' ua' uc',r= .returned (.tuple #[])∧CK K T' ua' uc' (faultF st re im 28) w'∧CStep K T T' w w':=by
  skip
  have HC0:=Lib.hid h;have HS0:=Lib.hid (CStep.refl K T w);have HV:=Lib.hid hv
  clear h hv
  go_enter Tryz.func106,Tryz.ntmps106
  obtain ⟨l_c,l_mf,l_ms,l_mn⟩:=HC0.out.lt
  go_upto_region 1 with fail
  refine wp_at (fun W=>Keeps [] w W∧W.heap[w.heap.size]? =some (.cells #[.int .i64 kd,.string tx,.float .f64 fm,.slice na nl nc,.complex .f64 re im] 58 (0,0))) ⟨(by with_reducible repeat (first|exact k0 _ _|refine kA ?_ _|refine kD ?_|refine kS ?_ (by simp)|refine kM ?_ (by simp))),(by simp only [hS,hA,hD,hM,World.size_setCell,World.size_drew,reduceIte,Option.map_some,Obj.put]<;>rfl)⟩ ?_
  rintro w1 ⟨Kw1,cw1_B⟩
  have n_c_B:K.c≠w.heap.size:=Nat.ne_of_lt l_c
  have n_B_c:w.heap.size≠K.c:=Nat.ne_of_gt l_c
  have n_mf_B:K.mf≠w.heap.size:=Nat.ne_of_lt l_mf
  have n_B_mf:w.heap.size≠K.mf:=Nat.ne_of_gt l_mf
  have n_ms_B:K.ms≠w.heap.size:=Nat.ne_of_lt l_ms
  have n_B_ms:w.heap.size≠K.ms:=Nat.ne_of_gt l_ms
  have n_mn_B:K.mn≠w.heap.size:=Nat.ne_of_lt l_mn
  have n_B_mn:w.heap.size≠K.mn:=Nat.ne_of_gt l_mn
  have o_B:w.heap.size≤w.heap.size:=Nat.le_refl _
  have off_B:Off K T (w.heap.size):=off_new HC0.out (Nat.le_refl _)
  have o0_B:K.w0.heap.size≤w.heap.size:=Nat.le_trans HC0.out.keep.size (Nat.le_refl _)
  have HCw1:=Lib.hid (HC0.out.kp0 Kw1)
  have HSw1:=Lib.hid (HS0.out.loc Kw1 (by simp))
  have Rw1_B:=Lib.hid cw1_B
  clear Kw1 cw1_B l_c l_mf l_ms l_mn HC0 HS0
  obtain ⟨l_c,xc_0,xc_1,xc_2,xc_3,xc_4,xc_5,xc_6,xc_7,xc_8,xc_9,xc_10,yc_0,yc_1,yc_2,yc_3,yc_4,yc_5,yc_6,yc_7,yc_8,yc_9,yc_10⟩:=cf11 HCw1.out.row
  obtain ⟨-,l_mf,l_ms,l_mn⟩:=HCw1.out.lt
  obtain ⟨l_B,xB_0,xB_1,xB_2,xB_3,xB_4,yB_0,yB_1,yB_2,yB_3,yB_4⟩:=cf5 Rw1_B.out
  have hlk:=HCw1.out.flook' tx HV.out
  go_cut [11] (fun s11 W=>s11= .bool true∧Keeps [] w1 W)
  case first=>
    go_region
    all_goals
      go_wp2_with fail
      go_meet
      case rel=>exact ⟨rfl,(by with_reducible repeat (first|exact k0 _ _|refine kA ?_ _|refine kD ?_|refine kS ?_ (by simp)|refine kM ?_ (by simp)))⟩
  case rest=>
    obtain ⟨rfl,hk⟩:=hcut
    generalize wc=w2 at*
    have Rw2_B:=Lib.hid (hk.at Rw1_B.out (by simp))
    have HCw2:=Lib.hid (HCw1.out.kp0 hk)
    have HSw2:=Lib.hid (HSw1.out.loc hk (by simp))
    clear hk Rw1_B HCw1 HSw1 l_c xc_0 xc_1 xc_2 xc_3 xc_4 xc_5 xc_6 xc_7 xc_8 xc_9 xc_10 yc_0 yc_1 yc_2 yc_3 yc_4 yc_5 yc_6 yc_7 yc_8 yc_9 yc_10 l_B xB_0 xB_1 xB_2 xB_3 xB_4 yB_0 yB_1 yB_2 yB_3 yB_4 l_mf l_ms l_mn
    obtain ⟨l_c,l_mf,l_ms,l_mn⟩:=HCw2.out.lt
    obtain ⟨l_B,xB_0,xB_1,xB_2,xB_3,xB_4,yB_0,yB_1,yB_2,yB_3,yB_4⟩:=cf5 Rw2_B.out
    go_wp2_with fail
    clear l_c l_B xB_0 xB_1 xB_2 xB_3 xB_4 yB_0 yB_1 yB_2 yB_3 yB_4 l_mf l_ms l_mn
    refine (fault_any hK HCw2.out re im 28).mono ?_
    rintro r e3 ⟨T3,ua3,uc3,rfl,hc,hs⟩
    have off2_B:=hs.off (h_lt Rw2_B.out) off_B
    have Re3_B:=Lib.hid (hs.at Rw2_B.out off_B)
    have off_B':=off2_B
    have HCe3:=Lib.hid hc
    have HSe3:=Lib.hid (HSw2.out.trans hs)
    clear Rw2_B off_B HCw2 HSw2 hc hs
    have off_B:=off_B'
    clear off_B' off2_B
    obtain ⟨l_c,l_mf,l_ms,l_mn⟩:=HCe3.out.lt
    have l_B:=h_lt Re3_B.out
    go_wp2_with fail
    refine end_at (v:= .tuple #[]) (fun W=>Keeps [] e3 W) (by with_reducible repeat (first|exact k0 _ _|refine kA ?_ _|refine kD ?_|refine kS ?_ (by simp)|refine kM ?_ (by simp))) (fun w4 hW=> ?_) rfl (fun w4 hW=> ?_)
    · have Kw4:Keeps [] e3 w4:=hW
      simp [results,Tryz.results106,go_sem]
    · have Kw4:Keeps [] e3 w4:=hW
      have Rw4_B:=Lib.hid (Kw4.at Re3_B.out (by simp))
      have HCw4:=Lib.hid (HCe3.out.kp0 Kw4)
      have HSw4:=Lib.hid (HSe3.out.loc Kw4 (by simp))
      clear Kw4 l_c l_B l_mf l_ms l_mn Re3_B HCe3 HSe3
      exact ⟨_,_,_,rfl,HCw4.out,HSw4.out⟩

theorem named_n{K:CKey}(hK:CFix K){T:Nat→Prop}{ua:Option Addr}{uc:Nat}{st:NS}{w:World}(h:CK K T ua uc st w)(kd:Int)(tx:ByteArray)(fm:Nat)(na:Option Addr)(nl nc re im:Nat){v:Int}(hv:v=(flook K.g tx:Nat))(hv0:v=0):
    Calls Tryz.prog 106 #[.pointer (some ⟨K.c,0,none⟩),.agg #[.int .i64 kd,.string tx,.float .f64 fm,.slice na nl nc,.complex .f64 re im]] w fun r w'=>∃T' ua' uc',r= .returned (.tuple #[])∧CK K T' ua' uc' (st) w'∧CStep K T T' w w':=by
  subst hv0
  have HC0:=Lib.hid h;have HS0:=Lib.hid (CStep.refl K T w);have HV:=Lib.hid hv
  clear h hv
  go_enter Tryz.func106,Tryz.ntmps106
  obtain ⟨l_c,l_mf,l_ms,l_mn⟩:=HC0.out.lt
  go_upto_region 1 with fail
  refine wp_at (fun W=>Keeps [] w W∧W.heap[w.heap.size]? =some (.cells #[.int .i64 kd,.string tx,.float .f64 fm,.slice na nl nc,.complex .f64 re im] 58 (0,0))) ⟨(by with_reducible repeat (first|exact k0 _ _|refine kA ?_ _|refine kD ?_|refine kS ?_ (by simp)|refine kM ?_ (by simp))),(by simp only [hS,hA,hD,hM,World.size_setCell,World.size_drew,reduceIte,Option.map_some,Obj.put]<;>rfl)⟩ ?_
  rintro w1 ⟨Kw1,cw1_B⟩
  have n_c_B:K.c≠w.heap.size:=Nat.ne_of_lt l_c
  have n_B_c:w.heap.size≠K.c:=Nat.ne_of_gt l_c
  have n_mf_B:K.mf≠w.heap.size:=Nat.ne_of_lt l_mf
  have n_B_mf:w.heap.size≠K.mf:=Nat.ne_of_gt l_mf
  have n_ms_B:K.ms≠w.heap.size:=Nat.ne_of_lt l_ms
  have n_B_ms:w.heap.size≠K.ms:=Nat.ne_of_gt l_ms
  have n_mn_B:K.mn≠w.heap.size:=Nat.ne_of_lt l_mn
  have n_B_mn:w.heap.size≠K.mn:=Nat.ne_of_gt l_mn
  have o_B:w.heap.size≤w.heap.size:=Nat.le_refl _
  have off_B:Off K T (w.heap.size):=off_new HC0.out (Nat.le_refl _)
  have o0_B:K.w0.heap.size≤w.heap.size:=Nat.le_trans HC0.out.keep.size (Nat.le_refl _)
  have HCw1:=Lib.hid (HC0.out.kp0 Kw1)
  have HSw1:=Lib.hid (HS0.out.loc Kw1 (by simp))
  have Rw1_B:=Lib.hid cw1_B
  clear Kw1 cw1_B l_c l_mf l_ms l_mn HC0 HS0
  obtain ⟨l_c,xc_0,xc_1,xc_2,xc_3,xc_4,xc_5,xc_6,xc_7,xc_8,xc_9,xc_10,yc_0,yc_1,yc_2,yc_3,yc_4,yc_5,yc_6,yc_7,yc_8,yc_9,yc_10⟩:=cf11 HCw1.out.row
  obtain ⟨-,l_mf,l_ms,l_mn⟩:=HCw1.out.lt
  obtain ⟨l_B,xB_0,xB_1,xB_2,xB_3,xB_4,yB_0,yB_1,yB_2,yB_3,yB_4⟩:=cf5 Rw1_B.out
  have hlk:=HCw1.out.flook' tx HV.out
  go_cut [11] (fun s11 W=>s11= .bool false∧Keeps [] w1 W)
  case first=>
    go_region
    all_goals
      go_wp2_with fail
      go_meet
      case rel=>exact ⟨rfl,(by with_reducible repeat (first|exact k0 _ _|refine kA ?_ _|refine kD ?_|refine kS ?_ (by simp)|refine kM ?_ (by simp)))⟩
  case rest=>
    obtain ⟨rfl,hk⟩:=hcut
    generalize wc=w2 at*
    have Rw2_B:=Lib.hid (hk.at Rw1_B.out (by simp))
    have HCw2:=Lib.hid (HCw1.out.kp0 hk)
    have HSw2:=Lib.hid (HSw1.out.loc hk (by simp))
    clear hk Rw1_B HCw1 HSw1 l_c xc_0 xc_1 xc_2 xc_3 xc_4 xc_5 xc_6 xc_7 xc_8 xc_9 xc_10 yc_0 yc_1 yc_2 yc_3 yc_4 yc_5 yc_6 yc_7 yc_8 yc_9 yc_10 l_B xB_0 xB_1 xB_2 xB_3 xB_4 yB_0 yB_1 yB_2 yB_3 yB_4 l_mf l_ms l_mn
    obtain ⟨l_c,l_mf,l_ms,l_mn⟩:=HCw2.out.lt
    have l_B:=h_lt Rw2_B.out
    go_wp2_with fail
    refine end_at (v:= .tuple #[]) (fun W=>Keeps [] w2 W) (by with_reducible repeat (first|exact k0 _ _|refine kA ?_ _|refine kD ?_|refine kS ?_ (by simp)|refine kM ?_ (by simp))) (fun w3 hW=> ?_) rfl (fun w3 hW=> ?_)
    · have Kw3:Keeps [] w2 w3:=hW
      simp [results,Tryz.results106,go_sem]
    · have Kw3:Keeps [] w2 w3:=hW
      have Rw3_B:=Lib.hid (Kw3.at Rw2_B.out (by simp))
      have HCw3:=Lib.hid (HCw2.out.kp0 Kw3)
      have HSw3:=Lib.hid (HSw2.out.loc Kw3 (by simp))
      clear Kw3 l_c l_B l_mf l_ms l_mn Rw2_B HCw2 HSw2
      exact ⟨_,_,_,rfl,HCw3.out,HSw3.out⟩

theorem named_any{K:CKey}(hK:CFix K){T:Nat→Prop}{ua:Option Addr}{uc:Nat}{st:NS}{w:World}(h:CK K T ua uc st w){S:Nat→Prop}{W:World}{n:Node}{v:Value}(hn:NodeR W S n v):
    Calls Tryz.prog 106 #[.pointer (some ⟨K.c,0,none⟩),v] w fun r w'=>∃T' ua' uc',r= .returned (.tuple #[])∧CK K T' ua' uc' (namedF K.g st n) w'∧CStep K T T' w w':=by
  cases hn with
  | mk hk=>
    obtain ⟨a,l,c,rfl⟩:=hk.slice
    unfold namedF
    split
    · rename_i h0
      simp only [Node.name] at h0
      exact named_y hK h _ _ _ _ _ _ _ _ rfl (by omega)
    · rename_i h0
      simp only [Node.name] at h0
      exact named_n hK h _ _ _ _ _ _ _ _ rfl (by omega)
end Go.Proofs.YteafcepaolofpaaGreatDoor
end
