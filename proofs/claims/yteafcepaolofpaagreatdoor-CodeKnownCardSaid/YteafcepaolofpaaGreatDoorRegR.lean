/- call's drawn region: a, b := c.root(c.of(name)), c.root(param), by an invariant. -/
import Derived.Test.YteafcepaolofpaaGreatDoorRegI
import Derived.BigRegion
set_option maxRecDepth 100000
set_option maxHeartbeats 4000000
set_option linter.unusedSimpArgs false
set_option linter.unusedVariables false
set_option linter.unusedSectionVars false
namespace Go.Proofs.YteafcepaolofpaaGreatDoor
open Go.RowKit

def agT(t:Thing):Value:= .agg #[.int .i64 t.1,.string t.2]
def clT(t:Thing):Obj:= .cells #[.int .i64 t.1,.string t.2] 137 (0,0)
def ptrV(b:Nat):Value:= .pointer (some ⟨b,0,none⟩)
def rval(K:CKey)(o:Thing×NS)(ra rb pt:Thing)(Kd:Nat)(name:ByteArray):Nat→Value
  |2=> .pointer (some ⟨Kd,1,none⟩)
  |3=> .string name
  |4=>agT o.1
  |5=>agT ra
  |7=>agT pt
  |8=>agT rb
  |_=>ptrV K.c
def depB(af:Array Edge)(k:Nat):Bool:=af.any fun e=>Region.binds .any e&&e.on==k
def ordB(ops:Array Oper):Bool:=(List.range ops.size).all fun i=>match ops[i]? with
  |some o=>o.after.all fun e=>decide (e.on<i)
  |none=>true
theorem depB_of{af:Array Edge}{k:Nat}(h:depB af k=true){L:Array Bool}(hL:∀e∈af,Region.binds .any e=true→L.getD e.on false=true):L.getD k false=true:=by
  obtain ⟨e,he,hb⟩:=Array.any_eq_true'.1 h
  simp only [Bool.and_eq_true,beq_iff_eq] at hb
  rw [←hb.2];exact hL e he hb.1
theorem all_listed{ops:Array Oper}(ho:ordB ops=true){L:Array Bool}(hs:L.size=ops.size)(hr:Region.ready .any ops L= []):∀n k,k<n→k<ops.size→L.getD k false=true
  |0,k,h,_=>absurd h (Nat.not_lt_zero _)
  | n + 1,k,h,hk=>by
    cases hg:L.getD k false with
    |true=>rfl
    | false=>
      exfalso
      have hkl:k<L.size:=by omega
      have ht:L.getD k true=false:=by simpa [Array.getD_eq_getD_getElem?,hkl] using hg
      have ho1:ops[k]? =some ops[k]:=Array.getElem?_eq_getElem hk
      have hmem:k∈Region.ready .any ops L:=mem_ready.2 ⟨ht,_,ho1,fun e he _=>by
        have h1:=List.all_eq_true.1 ho k (List.mem_range.2 hk)
        rw [ho1] at h1
        have h2:=Array.all_eq_true_iff_forall_mem.1 h1 e he
        simp only [decide_eq_true_eq] at h2
        exact all_listed ho hs hr n e.on (by omega) (by omega)⟩
      rw [hr] at hmem
      cases hmem
structure OpsR (ops:Array Oper):Prop where
  n:ops.size=13
  ord:ordB ops=true
  o0:∃ty pos af,ops[0]? =some ⟨some 80,.move (.tmp 0),ty,pos,af,none⟩
  o1:∃ty pos af,ops[1]? =some ⟨some 81,.move (.tmp 0),ty,pos,af,none⟩
  o2:∃ty pos af,ops[2]? =some ⟨some 82,.fieldAddr 58 (.tmp 7) 1,ty,pos,af,none⟩
  o3:∃pos af,ops[3]? =some ⟨some 83,.load 9 (.tmp 82),9,pos,af,none⟩∧depB af 2=true
  o4:∃pos af,ops[4]? =some ⟨some 84,.call {callee:= .value (.func 107),args:= #[.tmp 81,.tmp 83],argTypes:= #[86,9]},137,pos,af,none⟩∧depB af 1=true∧depB af 3=true
  o5:∃pos af,ops[5]? =some ⟨some 85,.call {callee:= .value (.func 68),args:= #[.tmp 80,.tmp 84],argTypes:= #[86,137]},137,pos,af,none⟩∧depB af 0=true∧depB af 4=true
  o6:∃ty pos af,ops[6]? =some ⟨some 86,.move (.tmp 0),ty,pos,af,none⟩
  o7:∃pos af,ops[7]? =some ⟨some 87,.load 137 (.tmp 8),137,pos,af,none⟩
  o8:∃pos af,ops[8]? =some ⟨some 88,.call {callee:= .value (.func 68),args:= #[.tmp 86,.tmp 87],argTypes:= #[86,137]},137,pos,af,none⟩∧depB af 6=true∧depB af 7=true
  o9:∃ty pos af,ops[9]? =some ⟨some 9,.alloc 137,ty,pos,af,none⟩
  o10:∃ty pos af,ops[10]? =some ⟨some 10,.alloc 137,ty,pos,af,none⟩
  o11:∃ty pos af,ops[11]? =some ⟨none,.store 137 (.tmp 9) (.tmp 85),ty,pos,af,none⟩∧depB af 9=true∧depB af 5=true
  o12:∃ty pos af,ops[12]? =some ⟨none,.store 137 (.tmp 10) (.tmp 88),ty,pos,af,none⟩∧depB af 10=true∧depB af 8=true

/-- The run of an operation, its operands told. -/
theorem run_move'{o:Oper}{ρ:Operand→Value}{x:Operand}{w:World}{v:Value}(h:o.op= .move x)(hv:ρ x=v):(execOp ρ o).run Tryz.prog w= .ok (.value v) w:=by
  obtain ⟨d,op,ty,pos,af,g⟩:=o
  simp only at h
  subst h
  subst hv
  rfl
theorem run_fa{ty:TypeId}{pos:String}{af:Array Edge}{ρ:Operand→Value}{w:World}{Kd:Nat}(hv:ρ (.tmp 7)=ptrV Kd):(execOp ρ ⟨some 82,.fieldAddr 58 (.tmp 7) 1,ty,pos,af,none⟩).run Tryz.prog w= .ok (.value (.pointer (some ⟨Kd,1,none⟩))) w:=by
  rw [execOp_congr (ρ':=fun _=>ptrV Kd) _ (by intro _ _ h;cases h) (by intro x hx;simp [Op.operands] at hx;subst hx;exact hv)]
  kernel_rfl
theorem run_ld1{pos:String}{af:Array Edge}{ρ:Operand→Value}{w:World}{Kd:Nat}{name:ByteArray}(hv:ρ (.tmp 82)= .pointer (some ⟨Kd,1,none⟩))(hc:w.cell? ⟨Kd,1,none⟩=some (.string name)):(execOp ρ ⟨some 83,.load 9 (.tmp 82),9,pos,af,none⟩).run Tryz.prog w= .ok (.value (.string name)) w:=by
  rw [execOp_congr (ρ':=fun _=> .pointer (some ⟨Kd,1,none⟩)) _ (by intro _ _ h;cases h) (by intro x hx;simp [Op.operands] at hx;subst hx;exact hv)]
  simp [go_sem,hc]
theorem run_ld2{pos:String}{af:Array Edge}{ρ:Operand→Value}{w:World}{P:Nat}{pt:Thing}(hv:ρ (.tmp 8)=ptrV P)(h0:w.cell? ⟨P,0,none⟩=some (.int .i64 pt.1))(h1:w.cell? ⟨P,1,none⟩=some (.string pt.2)):(execOp ρ ⟨some 87,.load 137 (.tmp 8),137,pos,af,none⟩).run Tryz.prog w= .ok (.value (agT pt)) w:=by
  rw [execOp_congr (ρ':=fun _=>ptrV P) _ (by intro _ _ h;cases h) (by intro x hx;simp [Op.operands] at hx;subst hx;exact hv)]
  simp [go_sem,h0,h1,ptrV,agT]
theorem run_c75{pos:String}{af:Array Edge}{a:Act}{w:World}{x y:Value}(hx:a.eval (.tmp 81)=x)(hy:a.eval (.tmp 83)=y):(execOp a.eval ⟨some 84,.call {callee:= .value (.func 107),args:= #[.tmp 81,.tmp 83],argTypes:= #[86,9]},137,pos,af,none⟩).run Tryz.prog w= .ok (.enter 107 #[x,y]) w:=by
  rw [execOp_congr (ρ':=fun z=>match z with| .tmp 81=>x| .tmp 83=>y| .func f=> .func (.func f) #[] #[]|_=>undef) _ (by intro _ _ h;cases h) (by
    intro z hz
    simp [Op.operands,Call.operands] at hz
    rcases hz with rfl|rfl|rfl<;>first|rfl|exact hx|exact hy)]
  kernel_rfl
theorem run_c45a{pos:String}{af:Array Edge}{a:Act}{w:World}{x y:Value}(hx:a.eval (.tmp 80)=x)(hy:a.eval (.tmp 84)=y):(execOp a.eval ⟨some 85,.call {callee:= .value (.func 68),args:= #[.tmp 80,.tmp 84],argTypes:= #[86,137]},137,pos,af,none⟩).run Tryz.prog w= .ok (.enter 68 #[x,y]) w:=by
  rw [execOp_congr (ρ':=fun z=>match z with| .tmp 80=>x| .tmp 84=>y| .func f=> .func (.func f) #[] #[]|_=>undef) _ (by intro _ _ h;cases h) (by
    intro z hz
    simp [Op.operands,Call.operands] at hz
    rcases hz with rfl|rfl|rfl<;>first|rfl|exact hx|exact hy)]
  kernel_rfl
theorem run_c45b{pos:String}{af:Array Edge}{a:Act}{w:World}{x y:Value}(hx:a.eval (.tmp 86)=x)(hy:a.eval (.tmp 87)=y):(execOp a.eval ⟨some 88,.call {callee:= .value (.func 68),args:= #[.tmp 86,.tmp 87],argTypes:= #[86,137]},137,pos,af,none⟩).run Tryz.prog w= .ok (.enter 68 #[x,y]) w:=by
  rw [execOp_congr (ρ':=fun z=>match z with| .tmp 86=>x| .tmp 87=>y| .func f=> .func (.func f) #[] #[]|_=>undef) _ (by intro _ _ h;cases h) (by
    intro z hz
    simp [Op.operands,Call.operands] at hz
    rcases hz with rfl|rfl|rfl<;>first|rfl|exact hx|exact hy)]
  kernel_rfl
theorem run_al{d:Nat}{ty:TypeId}{pos:String}{af:Array Edge}{ρ:Operand→Value}{w:World}:(execOp ρ ⟨some d,.alloc 137,ty,pos,af,none⟩).run Tryz.prog w= .ok (.value (ptrV w.heap.size)) (w.alloc (clT noT)):=by
  rw [execOp_congr (ρ':=fun _=>undef) _ (by intro _ _ h;cases h) (by intro x hx;simp [Op.operands] at hx)]
  simp [go_sem,ptrV,clT,noT,bs]
theorem run_sta{ty:TypeId}{pos:String}{af:Array Edge}{a:Act}{w:World}{x:Nat}{t u:Thing}(hx:a.eval (.tmp 9)=ptrV x)(hv:a.eval (.tmp 85)=agT t)(hc:w.heap[x]? =some (clT u)):(execOp a.eval ⟨none,.store 137 (.tmp 9) (.tmp 85),ty,pos,af,none⟩).run Tryz.prog w= .ok .skip ((w.setCell ⟨x,0,none⟩ (.int .i64 t.1)).setCell ⟨x,1,none⟩ (.string t.2)):=by
  rw [execOp_congr (ρ':=fun z=>match z with| .tmp 9=>ptrV x|_=>agT t) _ (by intro _ _ h;cases h) (by
    intro z hz
    simp [Op.operands] at hz
    rcases hz with rfl|rfl
    · exact hx
    · exact hv)]
  have q0:=cell_of_heap hc 0
  have q1:=cell_of_heap hc 1
  have f0:=frozen_of_heap hc 0
  have f1:=frozen_of_heap hc 1
  have hl:=h_lt hc
  simp at q0 q1
  simp [go_sem,ptrV,agT,q0,q1,f0,f1,hl]
theorem run_stb{ty:TypeId}{pos:String}{af:Array Edge}{a:Act}{w:World}{x:Nat}{t u:Thing}(hx:a.eval (.tmp 10)=ptrV x)(hv:a.eval (.tmp 88)=agT t)(hc:w.heap[x]? =some (clT u)):(execOp a.eval ⟨none,.store 137 (.tmp 10) (.tmp 88),ty,pos,af,none⟩).run Tryz.prog w= .ok .skip ((w.setCell ⟨x,0,none⟩ (.int .i64 t.1)).setCell ⟨x,1,none⟩ (.string t.2)):=by
  rw [execOp_congr (ρ':=fun z=>match z with| .tmp 10=>ptrV x|_=>agT t) _ (by intro _ _ h;cases h) (by
    intro z hz
    simp [Op.operands] at hz
    rcases hz with rfl|rfl
    · exact hx
    · exact hv)]
  have q0:=cell_of_heap hc 0
  have q1:=cell_of_heap hc 1
  have f0:=frozen_of_heap hc 0
  have f1:=frozen_of_heap hc 1
  have hl:=h_lt hc
  simp at q0 q1
  simp [go_sem,ptrV,agT,q0,q1,f0,f1,hl]

theorem ev_tmp{a:Act}{s:Nat}{v:Value}(h:a.tmps[s]? =some v):a.eval (.tmp s)=v:=by simp [Act.eval,Array.getD_eq_getD_getElem?,h]
theorem g_same{L:Array Bool}{i:Nat}(h:i<L.size):(L.setIfInBounds i true).getD i false=true:=by simp [Array.getD_eq_getD_getElem?,h]
theorem g_ne{L:Array Bool}{i j:Nat}(h:j≠i):(L.setIfInBounds i true).getD j false=L.getD j false:=getD_set_ne false (Ne.symm h)
theorem put_ne{a:Act}{d s:Nat}{v:Value}(h:s≠d):(a.put (some d) v).tmps[s]? =a.tmps[s]? :=by simp [Act.put,Array.getElem?_setIfInBounds,Ne.symm h]
theorem put_same{a:Act}{d:Nat}{v:Value}(h:d<a.tmps.size):(a.put (some d) v).tmps[d]? =some v:=by simp [Act.put,Array.getElem?_setIfInBounds,h]
structure RI (K:CKey) (T:Nat→Prop) (ua:Option Addr) (uc:Nat) (st:NS) (o:Thing×NS) (ra rb pt:Thing) (base:World) (A0:Act) (P Kd:Nat) (kc:Obj) (name:ByteArray) (L:Array Bool) (a:Act) (w:World):Prop where
  size:L.size=13
  defers:a.defers=A0.defers
  tsize:a.tmps.size=A0.tmps.size
  same:∀s,s≠9→s≠10→(s<80∨88<s)→a.tmps[s]? =A0.tmps[s]?
  v:∀k,k<9→L.getD k false=true→a.tmps[80+k]? =some (rval K o ra rb pt Kd name k)
  ck:CK K T ua uc (if L.getD 4 false=true then o.2 else st) w
  cs:CStep K T T base w
  rP:w.heap[P]? =some (clT pt)
  rK:w.heap[Kd]? =some kc
  b9:L.getD 9 false=true→∃x,a.tmps[9]? =some (ptrV x)∧base.heap.size≤x∧w.heap[x]? =some (clT (if L.getD 11 false=true then ra else noT))
  b10:L.getD 10 false=true→∃y,a.tmps[10]? =some (ptrV y)∧base.heap.size≤y∧w.heap[y]? =some (clT (if L.getD 12 false=true then rb else noT))
  ord11:L.getD 11 false=true→L.getD 9 false=true
  ord12:L.getD 12 false=true→L.getD 10 false=true
  ne:∀x y,L.getD 9 false=true→L.getD 10 false=true→a.tmps[9]? =some (ptrV x)→a.tmps[10]? =some (ptrV y)→x≠y
section
variable {K:CKey} {T:Nat→Prop} {ua:Option Addr} {uc:Nat} {st:NS} {o:Thing×NS} {ra rb pt:Thing} {base:World} {A0:Act} {P Kd:Nat} {kc:Obj} {name:ByteArray} {L:Array Bool} {a:Act} {w w':World}
theorem RI.val(h:RI K T ua uc st o ra rb pt base A0 P Kd kc name L a w){k:Nat}(hk:k<9)(h4:k≠4)(hsz:88<A0.tmps.size):RI K T ua uc st o ra rb pt base A0 P Kd kc name (L.setIfInBounds k true) (a.put (some (80+k)) (rval K o ra rb pt Kd name k)) w:=by
  have ht:80+k<a.tmps.size:=by rw [h.tsize];omega
  refine {size:=by simp [h.size],defers:=h.defers,tsize:=by simp [Act.put,h.tsize],same:=fun s h1 h2 h3=> ?_,v:=fun j hj hl=> ?_,ck:= ?_,cs:=h.cs,rP:=h.rP,rK:=h.rK,b9:=fun hl=> ?_,b10:=fun hl=> ?_,ord11:=fun hl=>by rw [g_ne (by omega)] at hl⊢;exact h.ord11 hl,ord12:=fun hl=>by rw [g_ne (by omega)] at hl⊢;exact h.ord12 hl,ne:=fun x y h1 h2 h3 h5=> ?_}
  · rw [put_ne (by omega)];exact h.same s h1 h2 h3
  · by_cases hjk:j=k
    · subst hjk;exact put_same ht
    · rw [put_ne (by omega)];exact h.v j hj (by rwa [g_ne hjk] at hl)
  · rw [g_ne (Ne.symm h4)];exact h.ck
  · rw [g_ne (by omega)] at hl;rw [put_ne (by omega),g_ne (by omega)];exact h.b9 hl
  · rw [g_ne (by omega)] at hl;rw [put_ne (by omega),g_ne (by omega)];exact h.b10 hl
  · rw [g_ne (by omega)] at h1 h2;rw [put_ne (by omega)] at h3 h5;exact h.ne x y h1 h2 h3 h5
theorem RI.kp(h:RI K T ua uc st o ra rb pt base A0 P Kd kc name L a w)(hk:Keeps [] w w'):RI K T ua uc st o ra rb pt base A0 P Kd kc name L a w':=
  {h with ck:=h.ck.kp0 hk,cs:=h.cs.loc hk (by simp),rP:=hk.at h.rP (by simp),rK:=hk.at h.rK (by simp),b9:=fun hl=>by obtain ⟨x,h1,h2,h3⟩:=h.b9 hl;exact ⟨x,h1,h2,hk.at h3 (by simp)⟩,b10:=fun hl=>by obtain ⟨x,h1,h2,h3⟩:=h.b10 hl;exact ⟨x,h1,h2,hk.at h3 (by simp)⟩}
/-- 'of' was called. -/
theorem RI.of(h:RI K T ua uc st o ra rb pt base A0 P Kd kc name L a w)(hb:CK K T ua uc st base)(oP:Off K T P)(oK:Off K T Kd)(hsz:88<A0.tmps.size)(hc:CK K T ua uc o.2 w')(hs:CStep K T T w w'):RI K T ua uc st o ra rb pt base A0 P Kd kc name (L.setIfInBounds 4 true) (a.put (some 84) (agT o.1)) w':=by
  have ht:84<a.tmps.size:=by rw [h.tsize];omega
  refine {size:=by simp [h.size],defers:=h.defers,tsize:=by simp [Act.put,h.tsize],same:=fun s h1 h2 h3=> ?_,v:=fun j hj hl=> ?_,ck:= ?_,cs:=h.cs.trans hs,rP:=hs.at h.rP oP,rK:=hs.at h.rK oK,b9:=fun hl=> ?_,b10:=fun hl=> ?_,ord11:=fun hl=>by rw [g_ne (by omega)] at hl⊢;exact h.ord11 hl,ord12:=fun hl=>by rw [g_ne (by omega)] at hl⊢;exact h.ord12 hl,ne:=fun x y h1 h2 h3 h5=> ?_}
  · rw [put_ne (by omega)];exact h.same s h1 h2 h3
  · by_cases hjk:j=4
    · subst hjk;exact put_same ht
    · rw [put_ne (by omega)];exact h.v j hj (by rwa [g_ne hjk] at hl)
  · rw [g_same (by rw [h.size];omega),if_pos rfl];exact hc
  · rw [g_ne (by omega)] at hl;rw [put_ne (by omega),g_ne (by omega)]
    obtain ⟨x,h1,h2,h3⟩:=h.b9 hl
    exact ⟨x,h1,h2,hs.at h3 (off_new hb h2)⟩
  · rw [g_ne (by omega)] at hl;rw [put_ne (by omega),g_ne (by omega)]
    obtain ⟨x,h1,h2,h3⟩:=h.b10 hl
    exact ⟨x,h1,h2,hs.at h3 (off_new hb h2)⟩
  · rw [g_ne (by omega)] at h1 h2;rw [put_ne (by omega)] at h3 h5;exact h.ne x y h1 h2 h3 h5
theorem RI.al9(h:RI K T ua uc st o ra rb pt base A0 P Kd kc name L a w)(hsz:88<A0.tmps.size)(h11:L.getD 11 false=false):RI K T ua uc st o ra rb pt base A0 P Kd kc name (L.setIfInBounds 9 true) (a.put (some 9) (ptrV w.heap.size)) (w.alloc (clT noT)):=by
  have ht:9<a.tmps.size:=by rw [h.tsize];omega
  have h':=h.kp (w':=w.alloc (clT noT)) (kA (k0 [] w) _)
  refine {size:=by simp [h.size],defers:=h.defers,tsize:=by simp [Act.put,h.tsize],same:=fun s h1 h2 h3=> ?_,v:=fun j hj hl=> ?_,ck:= ?_,cs:=h'.cs,rP:=h'.rP,rK:=h'.rK,b9:=fun hl=> ?_,b10:=fun hl=> ?_,ord11:=fun _=>g_same (by rw [h.size];omega),ord12:=fun hl=>by rw [g_ne (by omega)] at hl⊢;exact h.ord12 hl,ne:=fun x y h1 h2 h3 h5=> ?_}
  · rw [put_ne h1];exact h.same s h1 h2 h3
  · rw [g_ne (by omega)] at hl;rw [put_ne (by omega)];exact h.v j hj hl
  · rw [g_ne (by omega)];exact h'.ck
  · rw [g_ne (by omega),h11,if_neg (by simp)]
    exact ⟨w.heap.size,put_same ht,h.cs.size,h_new w _⟩
  · rw [g_ne (by omega)] at hl;rw [put_ne (by omega),g_ne (by omega)];exact h'.b10 hl
  · rw [g_ne (by omega)] at h2
    rw [put_same ht] at h3
    rw [put_ne (by omega)] at h5
    obtain ⟨y',k1,-,k3⟩:=h.b10 h2
    have e1:w.heap.size=x:=by simpa [ptrV] using h3
    have e2:y'=y:=by rw [h5] at k1;simpa [ptrV] using k1.symm
    have:=h_lt k3
    omega
theorem RI.al10(h:RI K T ua uc st o ra rb pt base A0 P Kd kc name L a w)(hsz:88<A0.tmps.size)(h12:L.getD 12 false=false):RI K T ua uc st o ra rb pt base A0 P Kd kc name (L.setIfInBounds 10 true) (a.put (some 10) (ptrV w.heap.size)) (w.alloc (clT noT)):=by
  have ht:10<a.tmps.size:=by rw [h.tsize];omega
  have h':=h.kp (w':=w.alloc (clT noT)) (kA (k0 [] w) _)
  refine {size:=by simp [h.size],defers:=h.defers,tsize:=by simp [Act.put,h.tsize],same:=fun s h1 h2 h3=> ?_,v:=fun j hj hl=> ?_,ck:= ?_,cs:=h'.cs,rP:=h'.rP,rK:=h'.rK,b9:=fun hl=> ?_,b10:=fun hl=> ?_,ord11:=fun hl=>by rw [g_ne (by omega)] at hl⊢;exact h.ord11 hl,ord12:=fun _=>g_same (by rw [h.size];omega),ne:=fun x y h1 h2 h3 h5=> ?_}
  · rw [put_ne h2];exact h.same s h1 h2 h3
  · rw [g_ne (by omega)] at hl;rw [put_ne (by omega)];exact h.v j hj hl
  · rw [g_ne (by omega)];exact h'.ck
  · rw [g_ne (by omega)] at hl;rw [put_ne (by omega),g_ne (by omega)];exact h'.b9 hl
  · rw [g_ne (by omega),h12,if_neg (by simp)]
    exact ⟨w.heap.size,put_same ht,h.cs.size,h_new w _⟩
  · rw [g_ne (by omega)] at h1
    rw [put_same ht] at h5
    rw [put_ne (by omega)] at h3
    obtain ⟨x',k1,-,k3⟩:=h.b9 h1
    have e1:w.heap.size=y:=by simpa [ptrV] using h5
    have e2:x'=x:=by rw [h3] at k1;simpa [ptrV] using k1.symm
    have:=h_lt k3
    omega
theorem set_clT{x:Nat}{t u:Thing}(hx:w.heap[x]? =some (clT u)):((w.setCell ⟨x,0,none⟩ (.int .i64 t.1)).setCell ⟨x,1,none⟩ (.string t.2)).heap[x]? =some (clT t)∧Keeps [x] w ((w.setCell ⟨x,0,none⟩ (.int .i64 t.1)).setCell ⟨x,1,none⟩ (.string t.2)):=by
  refine ⟨?_,kS (kS (k0 _ _) (by simp)) (by simp)⟩
  simp only [hS,hx,reduceIte,Option.map_some,Obj.put,clT]
  rfl
theorem RI.st11(h:RI K T ua uc st o ra rb pt base A0 P Kd kc name L a w)(hb:CK K T ua uc st base)(hP:P<base.heap.size)(hKd:Kd<base.heap.size)(h9:L.getD 9 false=true){x:Nat}(hx:a.tmps[9]? =some (ptrV x))(hbx:base.heap.size≤x){u:Thing}(hr:w.heap[x]? =some (clT u)):RI K T ua uc st o ra rb pt base A0 P Kd kc name (L.setIfInBounds 11 true) a ((w.setCell ⟨x,0,none⟩ (.int .i64 ra.1)).setCell ⟨x,1,none⟩ (.string ra.2)):=by
  obtain ⟨hr',hk⟩:=set_clT (t:=ra) hr
  refine {size:=by simp [h.size],defers:=h.defers,tsize:=h.tsize,same:=h.same,v:=fun j hj hl=>h.v j hj (by rwa [g_ne (by omega)] at hl),ck:= ?_,cs:=h.cs.loc hk (by simpa using .inr hbx),rP:=hk.at h.rP (by simp;omega),rK:=hk.at h.rK (by simp;omega),b9:=fun hl=> ?_,b10:=fun hl=> ?_,ord11:=fun _=>by rw [g_ne (by omega)];exact h9,ord12:=fun hl=>by rw [g_ne (by omega)] at hl⊢;exact h.ord12 hl,ne:=fun x y h1 h2 h3 h5=> ?_}
  · rw [g_ne (by omega)];exact CK.news hb h.ck hk (by simpa using hbx)
  · rw [g_same (by rw [h.size];omega),if_pos rfl];exact ⟨x,hx,hbx,hr'⟩
  · rw [g_ne (by omega)] at hl;rw [g_ne (by omega)]
    obtain ⟨y,k1,k2,k3⟩:=h.b10 hl
    exact ⟨y,k1,k2,hk.at k3 (by simp;exact Ne.symm (h.ne x y h9 hl hx k1))⟩
  · rw [g_ne (by omega)] at h1 h2;exact h.ne x y h1 h2 h3 h5
theorem RI.st12(h:RI K T ua uc st o ra rb pt base A0 P Kd kc name L a w)(hb:CK K T ua uc st base)(hP:P<base.heap.size)(hKd:Kd<base.heap.size)(h10:L.getD 10 false=true){x:Nat}(hx:a.tmps[10]? =some (ptrV x))(hbx:base.heap.size≤x){u:Thing}(hr:w.heap[x]? =some (clT u)):RI K T ua uc st o ra rb pt base A0 P Kd kc name (L.setIfInBounds 12 true) a ((w.setCell ⟨x,0,none⟩ (.int .i64 rb.1)).setCell ⟨x,1,none⟩ (.string rb.2)):=by
  obtain ⟨hr',hk⟩:=set_clT (t:=rb) hr
  refine {size:=by simp [h.size],defers:=h.defers,tsize:=h.tsize,same:=h.same,v:=fun j hj hl=>h.v j hj (by rwa [g_ne (by omega)] at hl),ck:= ?_,cs:=h.cs.loc hk (by simpa using .inr hbx),rP:=hk.at h.rP (by simp;omega),rK:=hk.at h.rK (by simp;omega),b9:=fun hl=> ?_,b10:=fun hl=> ?_,ord11:=fun hl=>by rw [g_ne (by omega)] at hl⊢;exact h.ord11 hl,ord12:=fun _=>by rw [g_ne (by omega)];exact h10,ne:=fun x y h1 h2 h3 h5=> ?_}
  · rw [g_ne (by omega)];exact CK.news hb h.ck hk (by simpa using hbx)
  · rw [g_ne (by omega)] at hl;rw [g_ne (by omega)]
    obtain ⟨y,k1,k2,k3⟩:=h.b9 hl
    exact ⟨y,k1,k2,hk.at k3 (by simp;exact h.ne y x hl h10 k1 hx)⟩
  · rw [g_same (by rw [h.size];omega),if_pos rfl];exact ⟨x,hx,hbx,hr'⟩
  · rw [g_ne (by omega)] at h1 h2;exact h.ne x y h1 h2 h3 h5
end
theorem roots_region{K:CKey}(hK:CFix K){T:Nat→Prop}{ua:Option Addr}{uc:Nat}{st:NS}{o:Thing×NS}{ra rb pt:Thing}{base:World}{A0:Act}{P Kd:Nat}{c0 c2 c3 c4:Value}{name:ByteArray}{fu fu2:Nat}
    {ops:Array Oper} {Q:Exit→Act→World→Prop} {id:Nat} (hm:Tryz.prog.follows .mixedOrders=true) (ho:OpsR ops) (hb:CK K T ua uc st base) (hof:o=ofF K.g st name) (hsm:o.2.same=st.same) (hra:rootF o.2.same fu o.1=some ra) (hrb:rootF o.2.same fu2 pt=some rb)
    (hP:base.heap[P]? =some (clT pt)) (hKd:base.heap[Kd]? =some (.cells #[c0,.string name,c2,c3,c4] 58 (0,0))) (oP:Off K T P) (oK:Off K T Kd) (h0:A0.tmps[0]? =some (ptrV K.c)) (h7:A0.tmps[7]? =some (ptrV Kd)) (h8:A0.tmps[8]? =some (ptrV P)) (hsz:88<A0.tmps.size)
    (hQ:∀a w x y,a.defers=A0.defers→a.tmps.size=A0.tmps.size→(∀s,s≠9→s≠10→(s<80∨88<s)→a.tmps[s]? =A0.tmps[s]?)→a.tmps[9]? =some (ptrV x)→a.tmps[10]? =some (ptrV y)→base.heap.size≤x→base.heap.size≤y→CK K T ua uc o.2 w→CStep K T T base w→w.heap[x]? =some (clT ra)→w.heap[y]? =some (clT rb)→Q .normal a w):
    (Code.region id ops true).wp Tryz.prog Q A0 base:=by
  have lP:=h_lt hP
  have lK:=h_lt hKd
  refine wp_region_inv hm (RI K T ua uc st o ra rb pt base A0 P Kd (.cells #[c0,.string name,c2,c3,c4] 58 (0,0)) name) ?_ (fun L a w h hr=> ?_) (fun L a w h i hi=> ?_)
  · have hf:∀k,(Array.replicate ops.size false).getD k false=false:=fun k=>by
      simp [Array.getD_eq_getD_getElem?,Array.getElem?_replicate];split<;>rfl
    have nf:∀{k:Nat},(Array.replicate ops.size false).getD k false=true→False:=fun {k} hk=>by rw [hf k] at hk;cases hk
    exact {size:=by simp [ho.n],defers:=rfl,tsize:=rfl,same:=fun _ _ _ _=>rfl,v:=fun k _ hl=>(nf hl).elim,ck:=by rw [hf 4,if_neg (by simp)];exact hb.kp0 (kD (k0 [] _)),cs:=(CStep.refl K T base).loc (kD (k0 [] _)) (by simp),rP:=hP,rK:=hKd,b9:=fun hl=>(nf hl).elim,b10:=fun hl=>(nf hl).elim,ord11:=fun hl=>(nf hl).elim,ord12:=fun hl=>(nf hl).elim,ne:=fun _ _ hl=>(nf hl).elim}
  · have hall:∀k,k<13→L.getD k false=true:=fun k hk=>all_listed ho.ord (by rw [h.size,ho.n]) hr (k+1) k (Nat.lt_succ_self k) (by rw [ho.n];exact hk)
    obtain ⟨x,hx,hbx,hrx⟩:=h.b9 (hall 9 (by omega))
    obtain ⟨y,hy,hby,hry⟩:=h.b10 (hall 10 (by omega))
    have hck:=h.ck
    rw [if_pos (hall 4 (by omega))] at hck
    rw [if_pos (hall 11 (by omega))] at hrx
    rw [if_pos (hall 12 (by omega))] at hry
    exact hQ a w x y h.defers h.tsize h.same hx hy hbx hby hck h.cs hrx hry
  · obtain ⟨hLi,oo,hoo,hdep⟩:=mem_ready.1 hi
    have hLf:L.getD i false=false:=by
      have hi13:i<L.size:=by
        have:=(Array.getElem?_eq_some_iff.1 hoo).1
        rw [h.size,←ho.n];exact this
      simpa [Array.getD_eq_getD_getElem?,hi13] using hLi
    have hi13:i<13:=by have:=(Array.getElem?_eq_some_iff.1 hoo).1;rw [ho.n] at this;exact this
    have e0:a.eval (.tmp 0)=ptrV K.c:=ev_tmp (by rw [h.same 0 (by omega) (by omega) (by omega)];exact h0)
    have e7:a.eval (.tmp 7)=ptrV Kd:=ev_tmp (by rw [h.same 7 (by omega) (by omega) (by omega)];exact h7)
    have e8:a.eval (.tmp 8)=ptrV P:=ev_tmp (by rw [h.same 8 (by omega) (by omega) (by omega)];exact h8)
    have root:∀(f:Nat) (t r:Thing),rootF o.2.same f t=some r→Calls Tryz.prog 68 #[ptrV K.c,agT t] w fun e w'=>∃v,e= .returned v∧(v=agT r∧Keeps [] w w'):=fun f t r ht=>by
      have hck:=h.ck
      by_cases hl:L.getD 4 false=true
      · rw [if_pos hl] at hck
        exact (root_any hck ht).mono fun _ _ ⟨k1,k2⟩=>⟨_,k1,rfl,k2⟩
      · rw [if_neg hl] at hck
        rw [hsm] at ht
        exact (root_any hck ht).mono fun _ _ ⟨k1,k2⟩=>⟨_,k1,rfl,k2⟩
    have hcases:i=0∨i=1∨i=2∨i=3∨i=4∨i=5∨i=6∨i=7∨i=8∨i=9∨i=10∨i=11∨i=12:=by omega
    rcases hcases with rfl|rfl|rfl|rfl|rfl|rfl|rfl|rfl|rfl|rfl|rfl|rfl|rfl
    · obtain ⟨ty,pos,af,hop⟩:=ho.o0
      exact wpOp_val hop rfl (run_move' rfl e0) (h.val (k:=0) (by omega) (by omega) hsz)
    · obtain ⟨ty,pos,af,hop⟩:=ho.o1
      exact wpOp_val hop rfl (run_move' rfl e0) (h.val (k:=1) (by omega) (by omega) hsz)
    · obtain ⟨ty,pos,af,hop⟩:=ho.o2
      exact wpOp_val hop rfl (run_fa e7) (h.val (k:=2) (by omega) (by omega) hsz)
    · obtain ⟨pos,af,hop,d1⟩:=ho.o3
      obtain rfl:=Option.some.inj (hoo.symm.trans hop)
      have hc:=cell_of_heap h.rK 1
      exact wpOp_val hop rfl (run_ld1 (ev_tmp (h.v 2 (by omega) (depB_of d1 hdep))) (by simpa using hc)) (h.val (k:=3) (by omega) (by omega) hsz)
    · obtain ⟨pos,af,hop,d1,d2⟩:=ho.o4
      obtain rfl:=Option.some.inj (hoo.symm.trans hop)
      have hck:=h.ck
      rw [if_neg (by rw [hLf];simp)] at hck
      refine wpOp_call hop rfl (run_c75 (ev_tmp (h.v 1 (by omega) (depB_of d1 hdep))) (ev_tmp (h.v 3 (by omega) (depB_of d2 hdep)))) (R:=fun v w'=>v=agT o.1∧CK K T ua uc o.2 w'∧CStep K T T w w') ?_ (fun v w' hv=> ?_)
      · rw [hof]
        exact (of_any hK hck name).mono fun _ _ ⟨k1,k2,k3⟩=>⟨_,k1,rfl,k2,k3⟩
      · obtain ⟨rfl,k2,k3⟩:=hv
        exact h.of hb oP oK hsz k2 k3
    · obtain ⟨pos,af,hop,d1,d2⟩:=ho.o5
      obtain rfl:=Option.some.inj (hoo.symm.trans hop)
      refine wpOp_call hop rfl (run_c45a (ev_tmp (h.v 0 (by omega) (depB_of d1 hdep))) (ev_tmp (h.v 4 (by omega) (depB_of d2 hdep)))) (root _ _ _ hra) (fun v w' hv=> ?_)
      obtain ⟨rfl,k2⟩:=hv
      exact (h.kp k2).val (k:=5) (by omega) (by omega) hsz
    · obtain ⟨ty,pos,af,hop⟩:=ho.o6
      exact wpOp_val hop rfl (run_move' rfl e0) (h.val (k:=6) (by omega) (by omega) hsz)
    · obtain ⟨pos,af,hop⟩:=ho.o7
      have q0:=cell_of_heap h.rP 0
      have q1:=cell_of_heap h.rP 1
      exact wpOp_val hop rfl (run_ld2 e8 (by simpa using q0) (by simpa using q1)) (h.val (k:=7) (by omega) (by omega) hsz)
    · obtain ⟨pos,af,hop,d1,d2⟩:=ho.o8
      obtain rfl:=Option.some.inj (hoo.symm.trans hop)
      refine wpOp_call hop rfl (run_c45b (ev_tmp (h.v 6 (by omega) (depB_of d1 hdep))) (ev_tmp (h.v 7 (by omega) (depB_of d2 hdep)))) (root _ _ _ hrb) (fun v w' hv=> ?_)
      obtain ⟨rfl,k2⟩:=hv
      exact (h.kp k2).val (k:=8) (by omega) (by omega) hsz
    · obtain ⟨ty,pos,af,hop⟩:=ho.o9
      exact wpOp_val hop rfl run_al (h.al9 hsz (by cases hg:L.getD 11 false with|false=>rfl|true=>rw [h.ord11 hg] at hLf;cases hLf))
    · obtain ⟨ty,pos,af,hop⟩:=ho.o10
      exact wpOp_val hop rfl run_al (h.al10 hsz (by cases hg:L.getD 12 false with|false=>rfl|true=>rw [h.ord12 hg] at hLf;cases hLf))
    · obtain ⟨ty,pos,af,hop,d1,d2⟩:=ho.o11
      obtain rfl:=Option.some.inj (hoo.symm.trans hop)
      obtain ⟨x,hx,hbx,hrx⟩:=h.b9 (depB_of d1 hdep)
      exact wpOp_skip hop rfl rfl (run_sta (ev_tmp hx) (ev_tmp (h.v 5 (by omega) (depB_of d2 hdep))) hrx) (h.st11 hb lP lK (depB_of d1 hdep) hx hbx hrx)
    · obtain ⟨ty,pos,af,hop,d1,d2⟩:=ho.o12
      obtain rfl:=Option.some.inj (hoo.symm.trans hop)
      obtain ⟨x,hx,hbx,hrx⟩:=h.b10 (depB_of d1 hdep)
      exact wpOp_skip hop rfl rfl (run_stb (ev_tmp hx) (ev_tmp (h.v 8 (by omega) (depB_of d2 hdep))) hrx) (h.st12 hb lP lK (depB_of d1 hdep) hx hbx hrx)
theorem ofF_same(g:ProgP)(st:NS)(name:ByteArray):(ofF g st name).2.same=st.same:=by unfold ofF;split<;>rfl
structure Agree (D:List Nat) (a A:Act):Prop where
  defers:a.defers=A.defers
  size:a.tmps.size=A.tmps.size
  same:∀s,s∉D→a.tmps[s]? =A.tmps[s]?
theorem Agree.put{d:Nat}{D:List Nat}{a A:Act}(h:Agree (d::D) a A)(hd:d<a.tmps.size):∃u,a.tmps[d]? =some u∧Agree D a (A.put (some d) u):=by
  refine ⟨a.tmps[d],Array.getElem?_eq_getElem hd,h.defers,by simp [Act.put,h.size],fun s hs=> ?_⟩
  by_cases hsd:s=d
  · subst hsd
    rw [put_same (by rw [←h.size];exact hd),Array.getElem?_eq_getElem hd]
  · rw [put_ne hsd]
    exact h.same s (by simp [hsd,hs])
theorem Agree.eq{a A:Act}(h:Agree [] a A):a=A:=by
  obtain ⟨h1,_,h3⟩:=h
  cases a with
  | mk t d=>cases A with
    | mk t0 d0=>
      have:t=t0:=Array.ext_getElem? fun s=>h3 s (by simp)
      simp only at h1
      rw [this,h1]
theorem act_of{A0 a:Act}(hd:a.defers=A0.defers)(ht:a.tmps.size=A0.tmps.size)(hs:∀s,s≠9→s≠10→(s<80∨88<s)→a.tmps[s]? =A0.tmps[s]?)(hsz:88<A0.tmps.size):
    ∃u9 u10 u80 u81 u82 u83 u84 u85 u86 u87 u88,a=(((((((((((A0.put (some 9) u9).put (some 10) u10).put (some 80) u80).put (some 81) u81).put (some 82) u82).put (some 83) u83).put (some 84) u84).put (some 85) u85).put (some 86) u86).put (some 87) u87).put (some 88) u88)∧a.tmps[9]? =some u9∧a.tmps[10]? =some u10:=by
  have h:Agree [9,10,80,81,82,83,84,85,86,87,88] a A0:=⟨hd,ht,fun s h=>hs s (by simp at h;omega) (by simp at h;omega) (by simp at h;omega)⟩
  obtain ⟨u9,e9,h⟩:=h.put (by omega)
  obtain ⟨u10,e10,h⟩:=h.put (by omega)
  obtain ⟨u80,e80,h⟩:=h.put (by omega)
  obtain ⟨u81,e81,h⟩:=h.put (by omega)
  obtain ⟨u82,e82,h⟩:=h.put (by omega)
  obtain ⟨u83,e83,h⟩:=h.put (by omega)
  obtain ⟨u84,e84,h⟩:=h.put (by omega)
  obtain ⟨u85,e85,h⟩:=h.put (by omega)
  obtain ⟨u86,e86,h⟩:=h.put (by omega)
  obtain ⟨u87,e87,h⟩:=h.put (by omega)
  obtain ⟨u88,e88,h⟩:=h.put (by omega)
  exact ⟨u9,u10,u80,u81,u82,u83,u84,u85,u86,u87,u88,h.eq,e9,e10⟩
end Go.Proofs.YteafcepaolofpaaGreatDoor
