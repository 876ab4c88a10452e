/- RegR, NamH. -/
import Derived.Test.YtkfillfkbhbbjaaGreatDoorRegI
import Derived.BigRegion
set_option maxRecDepth 100000
set_option maxHeartbeats 4000000
set_option linter.unusedSimpArgs false
set_option linter.unusedVariables false
namespace Go.Proofs.YtkfillfkbhbbjaaGreatDoor
open Go.RowKit
theorem qle{p:Prop}(h:p:=by
 have q0:=Aa hc 0;have q1:=Aa hc 1;have f0:=Ab hc 0;have f1:=Ab hc 1;have hl:=Ad hc;simp at q0 q1;simp [go_sem,Fy,GT,q0,q1,f0,f1,hl]):p:=h
def GT(t:Ae):Value:= .agg #[.int .i64 t.1,.string t.2]
def BH(t:Ae):Obj:= .cells #[.int .i64 t.1,.string t.2] 101 (0,0)
def Fy(b:Nat):Value:= .pointer (some ⟨b,0,none⟩)
def ZM(K:Ba)(o:Ae×NS)(ra rb pt:Ae)(Kd:Nat)(name:ByteArray):Nat→Value
 |2=> .pointer (some ⟨Kd,1,none⟩)
 |3=> .string name
 |4=>GT o.1
 |5=>GT ra
 |7=>GT pt
 |8=>GT rb
 |_=>Fy K.c
def Ul(af:Array Edge)(k:Nat):Bool:=af.any fun e=>Region.binds .any e&&e.on==k
def ZT(ops:Array Oper):Bool:=(List.range ops.size).all fun i=>match ops[i]? with
 |some o=>o.after.all fun e=>decide (e.on<i)
 |none=>true
theorem Gf{af:Array Edge}{k:Nat}(h:Ul af k=true){L:Array Bool}(hL:∀e∈af,Region.binds .any e=true→L.getD e.on false=true):L.getD k false=true:=by
 obtain ⟨e,he,hb⟩:=Array.any_eq_true'.1 h;simp only [Bool.and_eq_true,beq_iff_eq] at hb;rw [←hb.2];exact hL e he hb.1
theorem Xp{ops:Array Oper}(ho:ZT ops=true){L:Array Bool}(hs:L.size=ops.size)(hr:Region.ready .any ops L= []):∀n k,k<n→k<ops.size→L.getD k false=true
 |0,k,h,_=>absurd h (Nat.not_lt_zero _)
 | n +1,k,h,hk=>by
   cases hg:L.getD k false with
   |true=>rfl
   | false=>
    exfalso
    have hkl:k<L.size:=by omega
    have ht:L.getD k true=false:=by simpa [Array.getD_eq_getD_getElem?,hkl] using hg
    have ho1:ops[k]? =some ops[k]:=Array.getElem?_eq_getElem hk
    have hmem:k∈Region.ready .any ops L:=mem_ready.2 ⟨ht,_,ho1,fun e he _=>by
     have h1:=List.all_eq_true.1 ho k (List.mem_range.2 hk);rw [ho1] at h1;have h2:=Array.all_eq_true_iff_forall_mem.1 h1 e he;simp only [decide_eq_true_eq] at h2;exact Xp ho hs hr n e.on jh jh⟩
    rw [hr] at hmem
    cases hmem
structure Abj (ops:Array Oper):Prop where
 n:ops.size=13
 ord:ZT ops=true
 o0:∃ty pos af,ops[0]? =some ⟨some 80,.move (.tmp 0),ty,pos,af,none⟩
 o1:∃ty pos af,ops[1]? =some ⟨some 81,.move (.tmp 0),ty,pos,af,none⟩
 o2:∃ty pos af,ops[2]? =some ⟨some 82,.fieldAddr 50 (.tmp 7) 1,ty,pos,af,none⟩
 o3:∃pos af,ops[3]? =some ⟨some 83,.load 9 (.tmp 82),9,pos,af,none⟩∧Ul af 2=true
 o4:∃pos af,ops[4]? =some ⟨some 84,.call {callee:= .value (.func 75),args:= #[.tmp 81,.tmp 83],argTypes:= #[64,9]},101,pos,af,none⟩∧Ul af 1=true∧Ul af 3=true
 o5:∃pos af,ops[5]? =some ⟨some 85,.call {callee:= .value (.func 45),args:= #[.tmp 80,.tmp 84],argTypes:= #[64,101]},101,pos,af,none⟩∧Ul af 0=true∧Ul af 4=true
 o6:∃ty pos af,ops[6]? =some ⟨some 86,.move (.tmp 0),ty,pos,af,none⟩
 o7:∃pos af,ops[7]? =some ⟨some 87,.load 101 (.tmp 8),101,pos,af,none⟩
 o8:∃pos af,ops[8]? =some ⟨some 88,.call {callee:= .value (.func 45),args:= #[.tmp 86,.tmp 87],argTypes:= #[64,101]},101,pos,af,none⟩∧Ul af 6=true∧Ul af 7=true
 o9:∃ty pos af,ops[9]? =some ⟨some 9,.alloc 101,ty,pos,af,none⟩
 o10:∃ty pos af,ops[10]? =some ⟨some 10,.alloc 101,ty,pos,af,none⟩
 o11:∃ty pos af,ops[11]? =some ⟨none,.store 101 (.tmp 9) (.tmp 85),ty,pos,af,none⟩∧Ul af 9=true∧Ul af 5=true
 o12:∃ty pos af,ops[12]? =some ⟨none,.store 101 (.tmp 10) (.tmp 88),ty,pos,af,none⟩∧Ul af 10=true∧Ul af 8=true
theorem Rz{o:Oper}{ρ:Operand→Value}{x:Operand}{w:World}{v:Value}(h:o.op= .move x)(hv:ρ x=v):(execOp ρ o).run Tryz.prog w= .ok (.value v) w:=by
 obtain ⟨d,op,ty,pos,af,g⟩:=o;simp only at h;subst h;subst hv
 rfl
theorem WR{ty:TypeId}{pos:String}{af:Array Edge}{ρ:Operand→Value}{w:World}{Kd:Nat}(hv:ρ (.tmp 7)=Fy Kd):(execOp ρ ⟨some 82,.fieldAddr 50 (.tmp 7) 1,ty,pos,af,none⟩).run Tryz.prog w= .ok (.value (.pointer (some ⟨Kd,1,none⟩))) w:=by
 rw [execOp_congr (ρ':=fun _=>Fy Kd) _ zq jv]
 kernel_rfl
theorem SZ{pos:String}{af:Array Edge}{ρ:Operand→Value}{w:World}{Kd:Nat}{name:ByteArray}(hv:ρ (.tmp 82)= .pointer (some ⟨Kd,1,none⟩))(hc:w.cell? ⟨Kd,1,none⟩=some (.string name)):(execOp ρ ⟨some 83,.load 9 (.tmp 82),9,pos,af,none⟩).run Tryz.prog w= .ok (.value (.string name)) w:=by
 rw [execOp_congr (ρ':=fun _=> .pointer (some ⟨Kd,1,none⟩)) _ zq jv];simp [go_sem,hc]
theorem SY{pos:String}{af:Array Edge}{ρ:Operand→Value}{w:World}{P:Nat}{pt:Ae}(hv:ρ (.tmp 8)=Fy P)(h0:w.cell? ⟨P,0,none⟩=some (.int .i64 pt.1))(h1:w.cell? ⟨P,1,none⟩=some (.string pt.2)):(execOp ρ ⟨some 87,.load 101 (.tmp 8),101,pos,af,none⟩).run Tryz.prog w= .ok (.value (GT pt)) w:=by
 rw [execOp_congr (ρ':=fun _=>Fy P) _ zq jv];simp [go_sem,h0,h1,Fy,GT]
theorem TB{pos:String}{af:Array Edge}{a:Act}{w:World}{x y:Value}(hx:a.eval (.tmp 81)=x)(hy:a.eval (.tmp 83)=y):(execOp a.eval ⟨some 84,.call {callee:= .value (.func 75),args:= #[.tmp 81,.tmp 83],argTypes:= #[64,9]},101,pos,af,none⟩).run Tryz.prog w= .ok (.enter 75 #[x,y]) w:=by
 rw [execOp_congr (ρ':=fun z=>match z with| .tmp 81=>x| .tmp 83=>y| .func f=> .func (.func f) #[] #[]|_=>undef) _ zq (by
  intro z hz;simp [Op.operands,Call.operands] at hz
  rcases hz with rfl|rfl|rfl<;>first|rfl|exact hx|exact hy)]
 kernel_rfl
theorem NQ{pos:String}{af:Array Edge}{a:Act}{w:World}{x y:Value}(hx:a.eval (.tmp 80)=x)(hy:a.eval (.tmp 84)=y):(execOp a.eval ⟨some 85,.call {callee:= .value (.func 45),args:= #[.tmp 80,.tmp 84],argTypes:= #[64,101]},101,pos,af,none⟩).run Tryz.prog w= .ok (.enter 45 #[x,y]) w:=by
 rw [execOp_congr (ρ':=fun z=>match z with| .tmp 80=>x| .tmp 84=>y| .func f=> .func (.func f) #[] #[]|_=>undef) _ zq (by
  intro z hz;simp [Op.operands,Call.operands] at hz
  rcases hz with rfl|rfl|rfl<;>first|rfl|exact hx|exact hy)]
 kernel_rfl
theorem NP{pos:String}{af:Array Edge}{a:Act}{w:World}{x y:Value}(hx:a.eval (.tmp 86)=x)(hy:a.eval (.tmp 87)=y):(execOp a.eval ⟨some 88,.call {callee:= .value (.func 45),args:= #[.tmp 86,.tmp 87],argTypes:= #[64,101]},101,pos,af,none⟩).run Tryz.prog w= .ok (.enter 45 #[x,y]) w:=by
 rw [execOp_congr (ρ':=fun z=>match z with| .tmp 86=>x| .tmp 87=>y| .func f=> .func (.func f) #[] #[]|_=>undef) _ zq (by
  intro z hz;simp [Op.operands,Call.operands] at hz
  rcases hz with rfl|rfl|rfl<;>first|rfl|exact hx|exact hy)]
 kernel_rfl
theorem NR{d:Nat}{ty:TypeId}{pos:String}{af:Array Edge}{ρ:Operand→Value}{w:World}:(execOp ρ ⟨some d,.alloc 101,ty,pos,af,none⟩).run Tryz.prog w= .ok (.value (Fy w.heap.size)) (w.alloc (BH Gs)):=by
 rw [execOp_congr (ρ':=fun _=>undef) _ zq (by intro x hx;simp [Op.operands] at hx)];simp [go_sem,Fy,BH,Gs,bs]
theorem SX{ty:TypeId}{pos:String}{af:Array Edge}{a:Act}{w:World}{x:Nat}{t u:Ae}(hx:a.eval (.tmp 9)=Fy x)(hv:a.eval (.tmp 85)=GT t)(hc:w.heap[x]? =some (BH u)):(execOp a.eval ⟨none,.store 101 (.tmp 9) (.tmp 85),ty,pos,af,none⟩).run Tryz.prog w= .ok .skip ((w.setCell ⟨x,0,none⟩ (.int .i64 t.1)).setCell ⟨x,1,none⟩ (.string t.2)):=by
 rw [execOp_congr (ρ':=fun z=>match z with| .tmp 9=>Fy x|_=>GT t) _ zq (by
  intro z hz;simp [Op.operands] at hz
  rcases hz with rfl|rfl
  ·exact hx
  exact hv)]
 exact qle
theorem SW{ty:TypeId}{pos:String}{af:Array Edge}{a:Act}{w:World}{x:Nat}{t u:Ae}(hx:a.eval (.tmp 10)=Fy x)(hv:a.eval (.tmp 88)=GT t)(hc:w.heap[x]? =some (BH u)):(execOp a.eval ⟨none,.store 101 (.tmp 10) (.tmp 88),ty,pos,af,none⟩).run Tryz.prog w= .ok .skip ((w.setCell ⟨x,0,none⟩ (.int .i64 t.1)).setCell ⟨x,1,none⟩ (.string t.2)):=by
 rw [execOp_congr (ρ':=fun z=>match z with| .tmp 10=>Fy x|_=>GT t) _ zq (by
  intro z hz;simp [Op.operands] at hz
  rcases hz with rfl|rfl
  ·exact hx
  exact hv)]
 exact qle
theorem Hj{a:Act}{s:Nat}{v:Value}(h:a.tmps[s]? =some v):a.eval (.tmp s)=v:=by simp [Act.eval,Array.getD_eq_getD_getElem?,h]
theorem Wy{L:Array Bool}{i:Nat}(h:i<L.size):(L.setIfInBounds i true).getD i false=true:=by simp [Array.getD_eq_getD_getElem?,h]
theorem Dy{L:Array Bool}{i j:Nat}(h:j≠i):(L.setIfInBounds i true).getD j false=L.getD j false:=getD_set_ne false (Ne.symm h)
theorem Fa{a:Act}{d s:Nat}{v:Value}(h:s≠d):(a.put (some d) v).tmps[s]? =a.tmps[s]? :=by simp [Act.put,Array.getElem?_setIfInBounds,Ne.symm h]
theorem Jp{a:Act}{d:Nat}{v:Value}(h:d<a.tmps.size):(a.put (some d) v).tmps[d]? =some v:=by simp [Act.put,Array.getElem?_setIfInBounds,h]
structure RI (K:Ba) (T:Nat→Prop) (ua:Option Addr) (uc:Nat) (st:NS) (o:Ae×NS) (ra rb pt:Ae) (base:World) (A0:Act) (P Kd:Nat) (kc:Obj) (name:ByteArray) (L:Array Bool) (a:Act) (w:World):Prop where
 size:L.size=13
 defers:a.defers=A0.defers
 tsize:a.tmps.size=A0.tmps.size
 same:∀s,s≠9→s≠10→(s<80∨88<s)→a.tmps[s]? =A0.tmps[s]?
 v:∀k,k<9→L.getD k false=true→a.tmps[80+k]? =some (ZM K o ra rb pt Kd name k)
 ck:CK K T ua uc (if L.getD 4 false=true then o.2 else st) w
 cs:Ak K T T base w
 rP:w.heap[P]? =some (BH pt)
 rK:w.heap[Kd]? =some kc
 b9:L.getD 9 false=true→∃x,a.tmps[9]? =some (Fy x)∧base.heap.size≤x∧w.heap[x]? =some (BH (if L.getD 11 false=true then ra else Gs))
 b10:L.getD 10 false=true→∃y,a.tmps[10]? =some (Fy y)∧base.heap.size≤y∧w.heap[y]? =some (BH (if L.getD 12 false=true then rb else Gs))
 ord11:L.getD 11 false=true→L.getD 9 false=true
 ord12:L.getD 12 false=true→L.getD 10 false=true
 ne:∀x y,L.getD 9 false=true→L.getD 10 false=true→a.tmps[9]? =some (Fy x)→a.tmps[10]? =some (Fy y)→x≠y
section
variable {K:Ba} {T:Nat→Prop} {ua:Option Addr} {uc:Nat} {st:NS} {o:Ae×NS} {ra rb pt:Ae} {base:World} {A0:Act} {P Kd:Nat} {kc:Obj} {name:ByteArray} {L:Array Bool} {a:Act} {w w':World}
theorem RI.val(h:RI K T ua uc st o ra rb pt base A0 P Kd kc name L a w){k:Nat}(hk:k<9)(h4:k≠4)(hsz:88<A0.tmps.size):RI K T ua uc st o ra rb pt base A0 P Kd kc name (L.setIfInBounds k true) (a.put (some (80+k)) (ZM K o ra rb pt Kd name k)) w:=by
 have ht:80+k<a.tmps.size:=by rw [h.tsize];omega
 refine {size:=by simp [h.size],defers:=h.defers,tsize:=by simp [Act.put,h.tsize],same:=fun s h1 h2 h3=> ?_,v:=fun j hj hl=> ?_,ck:= ?_,cs:=h.cs,rP:=h.rP,rK:=h.rK,b9:=fun hl=> ?_,b10:=fun hl=> ?_,ord11:=fun hl=>by rw [Dy jh] at hl⊢;exact h.ord11 hl,ord12:=fun hl=>by rw [Dy jh] at hl⊢;exact h.ord12 hl,ne:=fun x y h1 h2 h3 h5=> ?_}
 ·rw [Fa jh];exact h.same s h1 h2 h3
 ·by_cases hjk:j=k
  ·subst hjk;exact Jp ht
  rw [Fa jh];exact h.v j hj (by rwa [Dy hjk] at hl)
 ·rw [Dy (Ne.symm h4)];exact h.ck
 ·rw [Dy jh] at hl;rw [Fa jh,Dy jh];exact h.b9 hl
 ·rw [Dy jh] at hl;rw [Fa jh,Dy jh];exact h.b10 hl
 rw [Dy jh] at h1 h2;rw [Fa jh] at h3 h5;exact h.ne x y h1 h2 h3 h5
theorem RI.kp(h:RI K T ua uc st o ra rb pt base A0 P Kd kc name L a w)(hk:Ac [] w w'):RI K T ua uc st o ra rb pt base A0 P Kd kc name L a w':=
 {h with ck:=h.ck.kp0 hk,cs:=h.cs.loc hk qg,rP:=hk.at h.rP qg,rK:=hk.at h.rK qg,b9:=fun hl=>by obtain ⟨x,h1,h2,h3⟩:=h.b9 hl;exact ⟨x,h1,h2,hk.at h3 qg⟩,b10:=fun hl=>by obtain ⟨x,h1,h2,h3⟩:=h.b10 hl;exact ⟨x,h1,h2,hk.at h3 qg⟩}
theorem RI.of(h:RI K T ua uc st o ra rb pt base A0 P Kd kc name L a w)(hb:CK K T ua uc st base)(oP:Fu K T P)(oK:Fu K T Kd)(hsz:88<A0.tmps.size)(hc:CK K T ua uc o.2 w')(hs:Ak K T T w w'):RI K T ua uc st o ra rb pt base A0 P Kd kc name (L.setIfInBounds 4 true) (a.put (some 84) (GT o.1)) w':=by
 have ht:84<a.tmps.size:=by rw [h.tsize];omega
 refine {size:=by simp [h.size],defers:=h.defers,tsize:=by simp [Act.put,h.tsize],same:=fun s h1 h2 h3=> ?_,v:=fun j hj hl=> ?_,ck:= ?_,cs:=h.cs.trans hs,rP:=hs.at h.rP oP,rK:=hs.at h.rK oK,b9:=fun hl=> ?_,b10:=fun hl=> ?_,ord11:=fun hl=>by rw [Dy jh] at hl⊢;exact h.ord11 hl,ord12:=fun hl=>by rw [Dy jh] at hl⊢;exact h.ord12 hl,ne:=fun x y h1 h2 h3 h5=> ?_}
 ·rw [Fa jh];exact h.same s h1 h2 h3
 ·by_cases hjk:j=4
  ·subst hjk;exact Jp ht
  rw [Fa jh];exact h.v j hj (by rwa [Dy hjk] at hl)
 ·rw [Wy qz,if_pos rfl];exact hc
 ·rw [Dy jh] at hl;rw [Fa jh,Dy jh];obtain ⟨x,h1,h2,h3⟩:=h.b9 hl;exact ⟨x,h1,h2,hs.at h3 (Ao hb h2)⟩
 ·rw [Dy jh] at hl;rw [Fa jh,Dy jh];obtain ⟨x,h1,h2,h3⟩:=h.b10 hl;exact ⟨x,h1,h2,hs.at h3 (Ao hb h2)⟩
 rw [Dy jh] at h1 h2;rw [Fa jh] at h3 h5;exact h.ne x y h1 h2 h3 h5
theorem RI.al9(h:RI K T ua uc st o ra rb pt base A0 P Kd kc name L a w)(hsz:88<A0.tmps.size)(h11:L.getD 11 false=false):RI K T ua uc st o ra rb pt base A0 P Kd kc name (L.setIfInBounds 9 true) (a.put (some 9) (Fy w.heap.size)) (w.alloc (BH Gs)):=by
 have ht:9<a.tmps.size:=by rw [h.tsize];omega
 have h':=h.kp (w':=w.alloc (BH Gs)) (kA (k0 [] w) _);refine {size:=by simp [h.size],defers:=h.defers,tsize:=by simp [Act.put,h.tsize],same:=fun s h1 h2 h3=> ?_,v:=fun j hj hl=> ?_,ck:= ?_,cs:=h'.cs,rP:=h'.rP,rK:=h'.rK,b9:=fun hl=> ?_,b10:=fun hl=> ?_,ord11:=fun _=>Wy qz,ord12:=fun hl=>by rw [Dy jh] at hl⊢;exact h.ord12 hl,ne:=fun x y h1 h2 h3 h5=> ?_}
 ·rw [Fa h1];exact h.same s h1 h2 h3
 ·rw [Dy jh] at hl;rw [Fa jh];exact h.v j hj hl
 ·rw [Dy jh];exact h'.ck
 ·rw [Dy jh,h11,if_neg qg];exact ⟨w.heap.size,Jp ht,h.cs.size,Ca w _⟩
 ·rw [Dy jh] at hl;rw [Fa jh,Dy jh];exact h'.b10 hl
 rw [Dy jh] at h2;rw [Jp ht] at h3;rw [Fa jh] at h5;obtain ⟨y',k1,-,k3⟩:=h.b10 h2;have e1:w.heap.size=x:=by simpa [Fy] using h3
 have e2:y'=y:=by rw [h5] at k1;simpa [Fy] using k1.symm
 have:=Ad k3
 omega
theorem RI.al10(h:RI K T ua uc st o ra rb pt base A0 P Kd kc name L a w)(hsz:88<A0.tmps.size)(h12:L.getD 12 false=false):RI K T ua uc st o ra rb pt base A0 P Kd kc name (L.setIfInBounds 10 true) (a.put (some 10) (Fy w.heap.size)) (w.alloc (BH Gs)):=by
 have ht:10<a.tmps.size:=by rw [h.tsize];omega
 have h':=h.kp (w':=w.alloc (BH Gs)) (kA (k0 [] w) _);refine {size:=by simp [h.size],defers:=h.defers,tsize:=by simp [Act.put,h.tsize],same:=fun s h1 h2 h3=> ?_,v:=fun j hj hl=> ?_,ck:= ?_,cs:=h'.cs,rP:=h'.rP,rK:=h'.rK,b9:=fun hl=> ?_,b10:=fun hl=> ?_,ord11:=fun hl=>by rw [Dy jh] at hl⊢;exact h.ord11 hl,ord12:=fun _=>Wy qz,ne:=fun x y h1 h2 h3 h5=> ?_}
 ·rw [Fa h2];exact h.same s h1 h2 h3
 ·rw [Dy jh] at hl;rw [Fa jh];exact h.v j hj hl
 ·rw [Dy jh];exact h'.ck
 ·rw [Dy jh] at hl;rw [Fa jh,Dy jh];exact h'.b9 hl
 ·rw [Dy jh,h12,if_neg qg];exact ⟨w.heap.size,Jp ht,h.cs.size,Ca w _⟩
 rw [Dy jh] at h1;rw [Jp ht] at h5;rw [Fa jh] at h3;obtain ⟨x',k1,-,k3⟩:=h.b9 h1;have e1:w.heap.size=y:=by simpa [Fy] using h5
 have e2:x'=x:=by rw [h3] at k1;simpa [Fy] using k1.symm
 have:=Ad k3
 omega
theorem IF{x:Nat}{t u:Ae}(hx:w.heap[x]? =some (BH u)):((w.setCell ⟨x,0,none⟩ (.int .i64 t.1)).setCell ⟨x,1,none⟩ (.string t.2)).heap[x]? =some (BH t)∧Ac [x] w ((w.setCell ⟨x,0,none⟩ (.int .i64 t.1)).setCell ⟨x,1,none⟩ (.string t.2)):=by
 refine ⟨?_,kS (kS (k0 _ _) qg) qg⟩;simp only [hS,hx,reduceIte,Option.map_some,Obj.put,BH]
 rfl
theorem RI.st11(h:RI K T ua uc st o ra rb pt base A0 P Kd kc name L a w)(hb:CK K T ua uc st base)(hP:P<base.heap.size)(hKd:Kd<base.heap.size)(h9:L.getD 9 false=true){x:Nat}(hx:a.tmps[9]? =some (Fy x))(hbx:base.heap.size≤x){u:Ae}(hr:w.heap[x]? =some (BH u)):RI K T ua uc st o ra rb pt base A0 P Kd kc name (L.setIfInBounds 11 true) a ((w.setCell ⟨x,0,none⟩ (.int .i64 ra.1)).setCell ⟨x,1,none⟩ (.string ra.2)):=by
 obtain ⟨hr',hk⟩:=IF (t:=ra) hr;refine {size:=by simp [h.size],defers:=h.defers,tsize:=h.tsize,same:=h.same,v:=fun j hj hl=>h.v j hj (by rwa [Dy jh] at hl),ck:= ?_,cs:=h.cs.loc hk (by simpa using .inr hbx),rP:=hk.at h.rP qi,rK:=hk.at h.rK qi,b9:=fun hl=> ?_,b10:=fun hl=> ?_,ord11:=fun _=>by rw [Dy jh];exact h9,ord12:=fun hl=>by rw [Dy jh] at hl⊢;exact h.ord12 hl,ne:=fun x y h1 h2 h3 h5=> ?_}
 ·rw [Dy jh];exact CK.news hb h.ck hk (by simpa using hbx)
 ·rw [Wy qz,if_pos rfl];exact ⟨x,hx,hbx,hr'⟩
 ·rw [Dy jh] at hl;rw [Dy jh];obtain ⟨y,k1,k2,k3⟩:=h.b10 hl;exact ⟨y,k1,k2,hk.at k3 (by simp;exact Ne.symm (h.ne x y h9 hl hx k1))⟩
 rw [Dy jh] at h1 h2;exact h.ne x y h1 h2 h3 h5
theorem RI.st12(h:RI K T ua uc st o ra rb pt base A0 P Kd kc name L a w)(hb:CK K T ua uc st base)(hP:P<base.heap.size)(hKd:Kd<base.heap.size)(h10:L.getD 10 false=true){x:Nat}(hx:a.tmps[10]? =some (Fy x))(hbx:base.heap.size≤x){u:Ae}(hr:w.heap[x]? =some (BH u)):RI K T ua uc st o ra rb pt base A0 P Kd kc name (L.setIfInBounds 12 true) a ((w.setCell ⟨x,0,none⟩ (.int .i64 rb.1)).setCell ⟨x,1,none⟩ (.string rb.2)):=by
 obtain ⟨hr',hk⟩:=IF (t:=rb) hr;refine {size:=by simp [h.size],defers:=h.defers,tsize:=h.tsize,same:=h.same,v:=fun j hj hl=>h.v j hj (by rwa [Dy jh] at hl),ck:= ?_,cs:=h.cs.loc hk (by simpa using .inr hbx),rP:=hk.at h.rP qi,rK:=hk.at h.rK qi,b9:=fun hl=> ?_,b10:=fun hl=> ?_,ord11:=fun hl=>by rw [Dy jh] at hl⊢;exact h.ord11 hl,ord12:=fun _=>by rw [Dy jh];exact h10,ne:=fun x y h1 h2 h3 h5=> ?_}
 ·rw [Dy jh];exact CK.news hb h.ck hk (by simpa using hbx)
 ·rw [Dy jh] at hl;rw [Dy jh];obtain ⟨y,k1,k2,k3⟩:=h.b9 hl;exact ⟨y,k1,k2,hk.at k3 (by simp;exact h.ne y x hl h10 k1 hx)⟩
 ·rw [Wy qz,if_pos rfl];exact ⟨x,hx,hbx,hr'⟩
 rw [Dy jh] at h1 h2;exact h.ne x y h1 h2 h3 h5
end
theorem AL{K:Ba}(hK:Dp K){T:Nat→Prop}{ua:Option Addr}{uc:Nat}{st:NS}{o:Ae×NS}{ra rb pt:Ae}{base:World}{A0:Act}{P Kd:Nat}{c0 c2 c3 c4:Value}{name:ByteArray}{fu fu2:Nat}{ops:Array Oper}{Q:Exit→Act→World→Prop}{id:Nat}(hm:Tryz.prog.follows .mixedOrders=true)(ho:Abj ops)(hb:CK K T ua uc st base)(hof:o=Iv K.g st name)(hsm:o.2.same=st.same)(hra:Dw o.2.same fu o.1=some ra)(hrb:Dw o.2.same fu2 pt=some rb)(hP:base.heap[P]? =some (BH pt))(hKd:base.heap[Kd]? =some (.cells #[c0,.string name,c2,c3,c4] 50 (0,0)))(oP:Fu K T P)(oK:Fu K T Kd)(h0:A0.tmps[0]? =some (Fy K.c))(h7:A0.tmps[7]? =some (Fy Kd))(h8:A0.tmps[8]? =some (Fy P))(hsz:88<A0.tmps.size)(hQ:∀a w x y,a.defers=A0.defers→a.tmps.size=A0.tmps.size→(∀s,s≠9→s≠10→(s<80∨88<s)→a.tmps[s]? =A0.tmps[s]?)→a.tmps[9]? =some (Fy x)→a.tmps[10]? =some (Fy y)→base.heap.size≤x→base.heap.size≤y→CK K T ua uc o.2 w→Ak K T T base w→w.heap[x]? =some (BH ra)→w.heap[y]? =some (BH rb)→Q .normal a w):(Code.region id ops true).wp Tryz.prog Q A0 base:=by
 have lP:=Ad hP;have lK:=Ad hKd;refine Xu hm (RI K T ua uc st o ra rb pt base A0 P Kd (.cells #[c0,.string name,c2,c3,c4] 50 (0,0)) name) ?_ (fun L a w h hr=> ?_) (fun L a w h i hi=> ?_)
 ·have hf:∀k,(Array.replicate ops.size false).getD k false=false:=fun k=>by
   simp [Array.getD_eq_getD_getElem?,Array.getElem?_replicate];split<;>rfl
  have nf:∀{k:Nat},(Array.replicate ops.size false).getD k false=true→False:=fun {k} hk=>by rw [hf k] at hk;cases hk
  exact {size:=by simp [ho.n],defers:=rfl,tsize:=rfl,same:=fun _ _ _ _=>rfl,v:=fun k _ hl=>(nf hl).elim,ck:=by rw [hf 4,if_neg qg];exact hb.kp0 (kD (k0 [] _)),cs:=(Ak.refl K T base).loc (kD (k0 [] _)) qg,rP:=hP,rK:=hKd,b9:=fun hl=>(nf hl).elim,b10:=fun hl=>(nf hl).elim,ord11:=fun hl=>(nf hl).elim,ord12:=fun hl=>(nf hl).elim,ne:=fun _ _ hl=>(nf hl).elim}
 ·have hall:∀k,k<13→L.getD k false=true:=fun k hk=>Xp ho.ord (by rw [h.size,ho.n]) hr (k+1) k (Nat.lt_succ_self k) (by rw [ho.n];exact hk)
  obtain ⟨x,hx,hbx,hrx⟩:=h.b9 (hall 9 jh);obtain ⟨y,hy,hby,hry⟩:=h.b10 (hall 10 jh);have hck:=h.ck;rw [if_pos (hall 4 jh)] at hck;rw [if_pos (hall 11 jh)] at hrx;rw [if_pos (hall 12 jh)] at hry;exact hQ a w x y h.defers h.tsize h.same hx hy hbx hby hck h.cs hrx hry
 obtain ⟨hLi,oo,hoo,hdep⟩:=mem_ready.1 hi
 have hLf:L.getD i false=false:=by
  have hi13:i<L.size:=by
   have:=(Array.getElem?_eq_some_iff.1 hoo).1;rw [h.size,←ho.n];exact this
  simpa [Array.getD_eq_getD_getElem?,hi13] using hLi
 have hi13:i<13:=by have:=(Array.getElem?_eq_some_iff.1 hoo).1;rw [ho.n] at this;exact this
 have e0:a.eval (.tmp 0)=Fy K.c:=Hj (by rw [h.same 0 jh jh jh];exact h0);have e7:a.eval (.tmp 7)=Fy Kd:=Hj (by rw [h.same 7 jh jh jh];exact h7);have e8:a.eval (.tmp 8)=Fy P:=Hj (by rw [h.same 8 jh jh jh];exact h8)
 have root:∀(f:Nat) (t r:Ae),Dw o.2.same f t=some r→Calls Tryz.prog 45 #[Fy K.c,GT t] w fun e w'=>∃v,e= .returned v∧(v=GT r∧Ac [] w w'):=fun f t r ht=>by
  have hck:=h.ck
  by_cases hl:L.getD 4 false=true
  ·rw [if_pos hl] at hck;exact zoc
  rw [if_neg hl] at hck;rw [hsm] at ht;exact zoc
 have hcases:i=0∨i=1∨i=2∨i=3∨i=4∨i=5∨i=6∨i=7∨i=8∨i=9∨i=10∨i=11∨i=12:=by omega
 rcases hcases with rfl|rfl|rfl|rfl|rfl|rfl|rfl|rfl|rfl|rfl|rfl|rfl|rfl
 ·obtain ⟨ty,pos,af,hop⟩:=ho.o0;exact If hop rfl (Rz rfl e0) (h.val (k:=0) jh jh hsz)
 ·obtain ⟨ty,pos,af,hop⟩:=ho.o1;exact If hop rfl (Rz rfl e0) (h.val (k:=1) jh jh hsz)
 ·obtain ⟨ty,pos,af,hop⟩:=ho.o2;exact If hop rfl (WR e7) (h.val (k:=2) jh jh hsz)
 ·obtain ⟨pos,af,hop,d1⟩:=ho.o3;obtain rfl:=Option.some.inj (hoo.symm.trans hop);have hc:=Aa h.rK 1;exact If hop rfl (SZ (Hj (h.v 2 jh (Gf d1 hdep))) (by simpa using hc)) (h.val (k:=3) jh jh hsz)
 ·obtain ⟨pos,af,hop,d1,d2⟩:=ho.o4;obtain rfl:=Option.some.inj (hoo.symm.trans hop);have hck:=h.ck;rw [if_neg (by rw [hLf];simp)] at hck;refine Rs hop rfl (TB (Hj (h.v 1 jh (Gf d1 hdep))) (Hj (h.v 3 jh (Gf d2 hdep)))) (R:=fun v w'=>v=GT o.1∧CK K T ua uc o.2 w'∧Ak K T T w w') ?_ (fun v w' hv=> ?_)
  ·rw [hof];exact (FV hK hck name).mono fun _ _ ⟨k1,k2,k3⟩=>⟨_,k1,rfl,k2,k3⟩
  obtain ⟨rfl,k2,k3⟩:=hv;exact h.of hb oP oK hsz k2 k3
 ·obtain ⟨pos,af,hop,d1,d2⟩:=ho.o5;obtain rfl:=Option.some.inj (hoo.symm.trans hop);refine Rs hop rfl (NQ (Hj (h.v 0 jh (Gf d1 hdep))) (Hj (h.v 4 jh (Gf d2 hdep)))) (root _ _ _ hra) (fun v w' hv=> ?_);obtain ⟨rfl,k2⟩:=hv;exact (h.kp k2).val (k:=5) jh jh hsz
 ·obtain ⟨ty,pos,af,hop⟩:=ho.o6;exact If hop rfl (Rz rfl e0) (h.val (k:=6) jh jh hsz)
 ·obtain ⟨pos,af,hop⟩:=ho.o7;have q0:=Aa h.rP 0;have q1:=Aa h.rP 1;exact If hop rfl (SY e8 (by simpa using q0) (by simpa using q1)) (h.val (k:=7) jh jh hsz)
 ·obtain ⟨pos,af,hop,d1,d2⟩:=ho.o8;obtain rfl:=Option.some.inj (hoo.symm.trans hop);refine Rs hop rfl (NP (Hj (h.v 6 jh (Gf d1 hdep))) (Hj (h.v 7 jh (Gf d2 hdep)))) (root _ _ _ hrb) (fun v w' hv=> ?_);obtain ⟨rfl,k2⟩:=hv;exact (h.kp k2).val (k:=8) jh jh hsz
 ·obtain ⟨ty,pos,af,hop⟩:=ho.o9;exact If hop rfl NR (h.al9 hsz (by cases hg:L.getD 11 false with|false=>rfl|true=>rw [h.ord11 hg] at hLf;cases hLf))
 ·obtain ⟨ty,pos,af,hop⟩:=ho.o10;exact If hop rfl NR (h.al10 hsz (by cases hg:L.getD 12 false with|false=>rfl|true=>rw [h.ord12 hg] at hLf;cases hLf))
 ·obtain ⟨ty,pos,af,hop,d1,d2⟩:=ho.o11;obtain rfl:=Option.some.inj (hoo.symm.trans hop);obtain ⟨x,hx,hbx,hrx⟩:=h.b9 (Gf d1 hdep);exact Ye hop rfl rfl (SX (Hj hx) (Hj (h.v 5 jh (Gf d2 hdep))) hrx) (h.st11 hb lP lK (Gf d1 hdep) hx hbx hrx)
 obtain ⟨ty,pos,af,hop,d1,d2⟩:=ho.o12;obtain rfl:=Option.some.inj (hoo.symm.trans hop);obtain ⟨x,hx,hbx,hrx⟩:=h.b10 (Gf d1 hdep);exact Ye hop rfl rfl (SW (Hj hx) (Hj (h.v 8 jh (Gf d2 hdep))) hrx) (h.st12 hb lP lK (Gf d1 hdep) hx hbx hrx)
theorem OH(g:Ah)(st:NS)(name:ByteArray):(Iv g st name).2.same=st.same:=by unfold Iv;split<;>rfl
structure AB (D:List Nat) (a A:Act):Prop where
 defers:a.defers=A.defers
 size:a.tmps.size=A.tmps.size
 same:∀s,s∉D→a.tmps[s]? =A.tmps[s]?
theorem AB.put{d:Nat}{D:List Nat}{a A:Act}(h:AB (d::D) a A)(hd:d<a.tmps.size):∃u,a.tmps[d]? =some u∧AB D a (A.put (some d) u):=by
 refine ⟨a.tmps[d],Array.getElem?_eq_getElem hd,h.defers,by simp [Act.put,h.size],fun s hs=> ?_⟩
 by_cases hsd:s=d
 ·subst hsd;rw [Jp (by rw [←h.size];exact hd),Array.getElem?_eq_getElem hd]
 rw [Fa hsd];exact h.same s (by simp [hsd,hs])
theorem AB.eq{a A:Act}(h:AB [] a A):a=A:=by
 obtain ⟨h1,_,h3⟩:=h
 cases a with
 | mk t d=>cases A with
   |mk t0 d0=>
    have:t=t0:=Array.ext_getElem? fun s=>h3 s qg
    simp only at h1;rw [this,h1]
theorem YB{A0 a:Act}(hd:a.defers=A0.defers)(ht:a.tmps.size=A0.tmps.size)(hs:∀s,s≠9→s≠10→(s<80∨88<s)→a.tmps[s]? =A0.tmps[s]?)(hsz:88<A0.tmps.size):∃u9 u10 u80 u81 u82 u83 u84 u85 u86 u87 u88,a=(((((((((((A0.put (some 9) u9).put (some 10) u10).put (some 80) u80).put (some 81) u81).put (some 82) u82).put (some 83) u83).put (some 84) u84).put (some 85) u85).put (some 86) u86).put (some 87) u87).put (some 88) u88)∧a.tmps[9]? =some u9∧a.tmps[10]? =some u10:=by
 have h:AB [9,10,80,81,82,83,84,85,86,87,88] a A0:=⟨hd,ht,fun s h=>hs s (by simp at h;omega) (by simp at h;omega) (by simp at h;omega)⟩;obtain ⟨u9,e9,h⟩:=h.put jh;obtain ⟨u10,e10,h⟩:=h.put jh;obtain ⟨u80,e80,h⟩:=h.put jh;obtain ⟨u81,e81,h⟩:=h.put jh;obtain ⟨u82,e82,h⟩:=h.put jh;obtain ⟨u83,e83,h⟩:=h.put jh;obtain ⟨u84,e84,h⟩:=h.put jh;obtain ⟨u85,e85,h⟩:=h.put jh;obtain ⟨u86,e86,h⟩:=h.put jh;obtain ⟨u87,e87,h⟩:=h.put jh;obtain ⟨u88,e88,h⟩:=h.put jh;exact ⟨u9,u10,u80,u81,u82,u83,u84,u85,u86,u87,u88,h.eq,e9,e10⟩
def Aas(K:Ba)(rec:Cu)(fn:Nat)(ps:List ByteArray)(kids:List Af)(st':NS)(T0:Nat→Prop)(w:World)(B:Nat)(ob:Obj)(g:Nat)(j:Value)(W:World):Prop:=
 ∃k:Nat,j= .int .i64 k∧k≤kids.length∧g+k=kids.length+1∧∃st T ua uc,Gh K.g rec fn (ps.drop k) (kids.drop k) st=some st'∧CK K T ua uc st W∧Ak K T0 T w W∧W.heap[B]? =some ob∧Fu K T B
set_option maxHeartbeats 40000000 in
theorem XU{K:Ba}(hK:Dp K){T:Nat→Prop}{ua:Option Addr}{uc:Nat}{st:NS}{w:World}(h:CK K T ua uc st w)(kd:Int)(tx:ByteArray)(fm:Nat)(na:Option Addr)(nc re im:Nat)(kids:List Af){fn i:Nat}{rec:Cu}{st':NS}(hfn:fn=flook K.g tx)(hfi:fn=i+1)(hi:i<K.g.funcs.length)(hm:kids.length≤K.g.funcs[i].params.length)(hkl:kids.length≤1000000)(hkd:Bc K.w0 (fun _=>True) kids (.slice na kids.length nc))(hrec:Ku K rec)(hcf:Gh K.g rec fn K.g.funcs[i].params kids st=some st'):Calls Tryz.prog 76 #[.pointer (some ⟨K.c,0,none⟩),.agg #[.int .i64 kd,.string tx,.float .f64 fm,.slice na kids.length nc,.complex .f64 re im]] w fun r w'=>∃T' ua' uc',r= .returned (.tuple #[])∧CK K T' ua' uc' (st') w'∧Ak K T T' w w':=by
 have d1:(0:Int)<(fn:Int):=by omega
 have d0:decide (0<fn)=true:=by simp;omega
 have d2:(fn:Int) -1=(i:Int):=by omega
 have d3:(i:Int)<(K.g.funcs.length:Int):=by omega
 have d4:(fn:Int)≤1000000:=by have:=hK.small;omega
 have d5:((fn:Int)==0)=false:=by simp;omega
 have d6:(fn==0)=false:=by simp;omega
 have d7:¬fn=0:=by omega
 have d8:decide (K.g.funcs[i].params.length<kids.length)=false:=by simp;omega
 have d9:¬K.g.funcs[i].params.length<kids.length:=by omega
 have HKD:=zh hkd;have HREC:=zh hrec;have HCF:=zh hcf;clear hkd hrec hcf;have HC0:=zh h;have HS0:=zh (Ak.refl K T w);have HFN:=zh hfn;have HFI:=zh hfi;clear h hfn hfi
 go_enter Tryz.func76,Tryz.ntmps76
 obtain ⟨l_c,l_mf,l_ms,l_mn⟩:=HC0.1.lt
 go_upto_region 1 with fail
 refine XF ?_;rintro w1 ⟨Kw1,cw1_B⟩;have ⟨n_c_B,n_B_c⟩:=Ai l_c;have ⟨n_mf_B,n_B_mf⟩:=Ai l_mf;have ⟨n_ms_B,n_B_ms⟩:=Ai l_ms;have ⟨n_mn_B,n_B_mn⟩:=Ai l_mn;have o_B:w.heap.size≤w.heap.size:=Nat.le_refl _;have off_B:Fu K T (w.heap.size):=Ao HC0.1 (Nat.le_refl _);have o0_B:K.w0.heap.size≤w.heap.size:=Nat.le_trans HC0.1.keep.size (Nat.le_refl _);have HCw1:=zh (HC0.1.kp0 Kw1);have HSw1:=zh (HS0.1.loc Kw1 qg);have Rw1_B:=zh cw1_B;clear Kw1 cw1_B l_c l_mf l_ms l_mn HC0 HS0;obtain ⟨l_c,xc_0,xc_1,xc_2,xc_3,xc_4,xc_5,xc_6,xc_7,xc_8,xc_9,xc_10,yc_0,yc_1,yc_2,yc_3,yc_4,yc_5,yc_6,yc_7,yc_8,yc_9,yc_10⟩:=Cp HCw1.1.row;obtain ⟨-,l_mf,l_ms,l_mn⟩:=HCw1.1.lt;obtain ⟨l_B,xB⟩:=Bv Rw1_B.1;have hlk:=HCw1.1.flook' tx (v:=(fn:Int)) (by rw [HFN.1])
 go_cut [4] (fun s4 W=>s4= .int .i64 fn∧Ac [] w1 W)
 case first=>
  exact RV
 obtain ⟨rfl,hk⟩:=hcut;generalize wc=w2 at*
 have Rw2_B:=zh (hk.at Rw1_B.1 qg);have HCw2:=zh (HCw1.1.kp0 hk);have HSw2:=zh (HSw1.1.loc hk qg);clear hk Rw1_B HCw1 HSw1 l_c xc_0 xc_1 xc_2 xc_3 xc_4 xc_5 xc_6 xc_7 xc_8 xc_9 xc_10 yc_0 yc_1 yc_2 yc_3 yc_4 yc_5 yc_6 yc_7 yc_8 yc_9 yc_10 l_B xB l_mf l_ms l_mn;obtain ⟨l_c,xc_0,xc_1,xc_2,xc_3,xc_4,xc_5,xc_6,xc_7,xc_8,xc_9,xc_10,yc_0,yc_1,yc_2,yc_3,yc_4,yc_5,yc_6,yc_7,yc_8,yc_9,yc_10⟩:=Cp HCw2.1.row;obtain ⟨-,l_mf,l_ms,l_mn⟩:=HCw2.1.lt;obtain ⟨l_B,xB⟩:=Bv Rw2_B.1;obtain ⟨g,o,pa,pc,b0,b1,b2,b3,b4,hfa,-,hcp,-,-,-,-,-,-,hsp,-⟩:=CK.func hK HCw2.1 hi;have HSP:=zh hsp;have HFA:=zh hfa;clear hsp;rw [hfa] at xc_1;clear hfa
 go_wp2_with fail
 clear l_c xc_0 xc_1 xc_2 xc_3 xc_4 xc_5 xc_6 xc_7 xc_8 xc_9 xc_10 yc_0 yc_1 yc_2 yc_3 yc_4 yc_5 yc_6 yc_7 yc_8 yc_9 yc_10 l_B xB l_mf l_ms l_mn
 go_loopg [47] (kids.length+1) (fun g j wr=>Aas K rec fn K.g.funcs[i].params kids st' T w (w.heap.size) (.cells #[.int .i64 kd,.string tx,.float .f64 fm,.slice na kids.length nc,.complex .f64 re im] 50 (0,0)) g j wr)
 case atStart=>exact ⟨0,rfl,Nat.zero_le _,rfl,_,_,_,_,HCF.1,HCw2.1,HSw2.1,Rw2_B.1,off_B⟩
 obtain ⟨k,rfl,hk1,hk2,st1,T1,ua1,uc1,hcf,hc,hs,hB,off_B⟩:=hrel;have HCr:=zh hc;have HSr:=zh hs;have RB:=zh hB;clear hc hs hB d1 d0 d2 d3 d4 d5 d6 d7 d8 d9
 by_cases hlt:k<kids.length
 ·have hlt2:k<K.g.funcs[i].params.length:=Nat.lt_of_lt_of_le hlt hm;obtain ⟨g3,o3,fm3,na3,nc3,hna,kc0,kc1,kc2,kc3,kc4,hkn⟩:=CK.kid HCr.1 HKD.1 hlt;subst hna;obtain ⟨g2,o2,hpa,hcs⟩:=CK.str HCr.1 HSP.1 hlt2;subst hpa;have lg2:g2<wr.heap.size:=Cd hcs;have lg3:g3<wr.heap.size:=Cd kc0;rw [List.drop_eq_getElem_cons hlt,List.drop_eq_getElem_cons hlt2,Gh] at hcf;generalize K.g.funcs[i].params[k]=q at*
  generalize kids[k]=kk at*
  cases gk with
  |zero=>omega
  | succ f=>
   by_cases h4:kk.kind=4
   ·rw [if_neg (by simp [h4])] at hcf;simp only [Option.bind_eq_bind,Option.bind_eq_some_iff] at hcf;obtain ⟨ra,hra,rb,hrb,hcf⟩:=hcf;have e4:(kk.kind==4)=true:=by simp [h4]
    have e5:(kk.kind !=4)=false:=by simp [h4]
    clear h4;obtain ⟨l_c,l_mf,l_ms,l_mn⟩:=HCr.1.lt;have l_mf_1:K.mf<wr.heap.size+1:=Nat.lt_add_right 1 l_mf;have l_ms_1:K.ms<wr.heap.size+1:=Nat.lt_add_right 1 l_ms;have l_mn_1:K.mn<wr.heap.size+1:=Nat.lt_add_right 1 l_mn;have l_B:=Ad RB.1;have l_B_1:w.heap.size<wr.heap.size+1:=Nat.lt_add_right 1 l_B;have l_c_1:K.c<wr.heap.size+1:=Nat.lt_add_right 1 l_c
    go_wp2_with fail
    refine An (fun W=>Ac [] wr W∧W.heap[wr.heap.size]? =some (.cells #[.int .i64 kk.kind,.string kk.name,.float .f64 fm3,.slice na3 kk.kids.length nc3,.complex .f64 kk.re kk.im] 50 (0,0))∧W.heap[wr.heap.size+1]? =some (.cells #[.int .i64 fn,.string q] 101 (0,0))) ⟨jg,jd,jd⟩ ?_;rintro w51 ⟨Kw51,cw51_Kd,cw51_P⟩;have ⟨n_c_Kd,n_Kd_c⟩:=Ai l_c;have ⟨n_mf_Kd,n_Kd_mf⟩:=Ai l_mf;have ⟨n_ms_Kd,n_Kd_ms⟩:=Ai l_ms;have ⟨n_mn_Kd,n_Kd_mn⟩:=Ai l_mn;have ⟨n_B_Kd,n_Kd_B⟩:=Ai l_B;have o_Kd:w.heap.size≤wr.heap.size:=HSr.1.size;have off_Kd:Fu K T1 (wr.heap.size):=Ao HCr.1 (Nat.le_refl _);have o0_Kd:K.w0.heap.size≤wr.heap.size:=Nat.le_trans HCr.1.keep.size (Nat.le_refl _);have ⟨n_c_P,n_P_c⟩:=Ai (Nat.lt_add_right 1 l_c);have ⟨n_mf_P,n_P_mf⟩:=Ai (Nat.lt_add_right 1 l_mf);have ⟨n_ms_P,n_P_ms⟩:=Ai (Nat.lt_add_right 1 l_ms);have ⟨n_mn_P,n_P_mn⟩:=Ai (Nat.lt_add_right 1 l_mn);have ⟨n_B_P,n_P_B⟩:=Ai (Nat.lt_add_right 1 l_B);have n_Kd_P:wr.heap.size≠wr.heap.size+1:=by simp
    have n_P_Kd:wr.heap.size+1≠wr.heap.size:=by simp
    have o_P:w.heap.size≤wr.heap.size+1:=Nat.le_trans (HSr.1.size) (Nat.le_add_right _ 1);have off_P:Fu K T1 (wr.heap.size+1):=Ao HCr.1 (Nat.le_add_right _ 1);have o0_P:K.w0.heap.size≤wr.heap.size+1:=Nat.le_trans HCr.1.keep.size (Nat.le_add_right _ 1);have Rw51_B:=zh (Kw51.at RB.1 qg);have HCw51:=zh (HCr.1.kp0 Kw51);have HSw51:=zh (HSr.1.loc Kw51 qg);have Rw51_Kd:=zh cw51_Kd;have Rw51_P:=zh cw51_P;clear Kw51 cw51_Kd cw51_P l_c l_c_1 l_B l_B_1 l_mf_1 l_ms_1 l_mn_1 l_mf l_ms l_mn RB HCr HSr;refine (Od hK HCw51.1 hkn).mono ?_;rintro r e52 ⟨T52,ua52,uc52,rfl,hc,hs⟩;have off2_B:=hs.off (Ad Rw51_B.1) off_B;have Re52_B:=zh (hs.at Rw51_B.1 off_B);have off2_Kd:=hs.off (Ad Rw51_Kd.1) off_Kd;have Re52_Kd:=zh (hs.at Rw51_Kd.1 off_Kd);have off2_P:=hs.off (Ad Rw51_P.1) off_P;have Re52_P:=zh (hs.at Rw51_P.1 off_P);have off_B':=off2_B;have off_Kd':=off2_Kd;have off_P':=off2_P;have HCe52:=zh hc;have HSe52:=zh (HSw51.1.trans hs);clear Rw51_B off_B Rw51_Kd off_Kd Rw51_P off_P HCw51 HSw51 hc hs;have off_B:=off_B';clear off_B' off2_B;have off_Kd:=off_Kd';clear off_Kd' off2_Kd;have off_P:=off_P';clear off_P' off2_P;obtain ⟨l_c,l_mf,l_ms,l_mn⟩:=HCe52.1.lt;have l_B:=Ad Re52_B.1;obtain ⟨l_Kd,xKd⟩:=Bv Re52_Kd.1;obtain ⟨l_P,xP⟩:=Ki Re52_P.1;obtain ⟨oo,hoo⟩:∃x,x=(Iv K.g (Bi K.g st1 kk) kk.name):=⟨_,rfl⟩;rw [←hoo] at hcf hra hrb
    have HRA:=zh hra;have HRB:=zh hrb;have HOO:=zh hoo;clear hra hrb hoo
    go_upto_region 15 with fail
    go_cut [9,10] (fun s9 s10 W=>∃x y:Nat,s9= .pointer (some ⟨x,0,none⟩)∧s10= .pointer (some ⟨y,0,none⟩)∧e52.heap.size≤x∧e52.heap.size≤y∧CK K T52 ua52 uc52 (oo.2) W∧Ak K T52 T52 e52 W∧W.heap[x]? =some (.cells #[.int .i64 ra.1,.string ra.2] 101 (0,0))∧W.heap[y]? =some (.cells #[.int .i64 rb.1,.string rb.2] 101 (0,0)))
    case first=>
     clear xKd xP;refine AL (o:=oo) (ra:=ra) (rb:=rb) (pt:=((fn,q):Ae)) (name:=kk.name) hK qh ?ho HCe52.1 HOO.1 ?hsm HRA.1 HRB.1 Re52_P.1 Re52_Kd.1 off_P off_Kd rfl rfl rfl (by first|decide|simp) ?hQ
     case ho=>exact ⟨rfl,by kernel_rfl,⟨_,_,_,rfl⟩,⟨_,_,_,rfl⟩,⟨_,_,_,rfl⟩,⟨_,_,rfl,by kernel_rfl⟩,⟨_,_,rfl,by kernel_rfl,by kernel_rfl⟩,⟨_,_,rfl,by kernel_rfl,by kernel_rfl⟩,⟨_,_,_,rfl⟩,⟨_,_,rfl⟩,⟨_,_,rfl,by kernel_rfl,by kernel_rfl⟩,⟨_,_,_,rfl⟩,⟨_,_,_,rfl⟩,⟨_,_,_,rfl,by kernel_rfl,by kernel_rfl⟩,⟨_,_,_,rfl,by kernel_rfl,by kernel_rfl⟩⟩
     case hsm=>rw [HOO.1];exact OH _ _ _
     intro aa wa xa ya hd ht hs h9 h10 hbx hby hck hcs hrx hry;obtain ⟨u9,u10,u80,u81,u82,u83,u84,u85,u86,u87,u88,ha,e9,e10⟩:=YB hd ht hs (by first|decide|simp);rw [h9] at e9;rw [h10] at e10;obtain rfl:=Option.some.inj e9;obtain rfl:=Option.some.inj e10;rw [ha];clear ha hd ht hs h9 h10;simp only [Act.put,List.setIfInBounds_toArray,List.set_cons_succ,List.set_cons_zero,Fy]
     go_wp2_with fail
     go_meet
     case rel=>exact ⟨xa,ya,rfl,rfl,hbx,hby,hck,hcs,hrx,hry⟩
    obtain ⟨x53,y53,rfl,rfl,hlx,hly,hc,hs,ha,hb⟩:=hcut;generalize wc=w53 at*
    clear l_c l_B l_Kd xKd l_P xP l_mf l_ms l_mn
    skip
    have off_A:=Ao HCe52.1 hlx;have off_B2:=Ao HCe52.1 hly;have RA:=zh ha;have RB2:=zh hb;clear ha hb hlx hly;have off2_B:=hs.off (Ad Re52_B.1) off_B;have Rw53_B:=zh (hs.at Re52_B.1 off_B);have off2_Kd:=hs.off (Ad Re52_Kd.1) off_Kd;have Rw53_Kd:=zh (hs.at Re52_Kd.1 off_Kd);have off2_P:=hs.off (Ad Re52_P.1) off_P;have Rw53_P:=zh (hs.at Re52_P.1 off_P);have off_B':=off2_B;have off_Kd':=off2_Kd;have off_P':=off2_P;have HCw53:=zh hc;have HSw53:=zh (HSe52.1.trans hs);clear Re52_B off_B Re52_Kd off_Kd Re52_P off_P HCe52 HSe52 hc hs;have off_B:=off_B';clear off_B' off2_B;have off_Kd:=off_Kd';clear off_Kd' off2_Kd;have off_P:=off_P';clear off_P' off2_P;have n_A_c:=off_A.1;have n_c_A:=Ne.symm off_A.1;have n_A_ms:=off_A.2.1;have n_ms_A:=Ne.symm off_A.2.1;have n_A_mn:=off_A.2.2.1;have n_mn_A:=Ne.symm off_A.2.2.1;have n_B2_c:=off_B2.1;have n_c_B2:=Ne.symm off_B2.1;have n_B2_ms:=off_B2.2.1;have n_ms_B2:=Ne.symm off_B2.2.1;have n_B2_mn:=off_B2.2.2.1;have n_mn_B2:=Ne.symm off_B2.2.2.1
    by_cases ht:Oq ra rb=true
    ·rw [if_pos ht] at hcf;have hne:∀W,(Op.equalIn 10000 101 (.agg #[.int .i64 ra.1,.string ra.2]) (.agg #[.int .i64 rb.1,.string rb.2])).run Tryz.prog W= .ok true W:=fun W=>(Iw W 9998 ra rb).trans (by rw [Hy.1 ht];simp)
     obtain ⟨l_c,l_mf,l_ms,l_mn⟩:=HCw53.1.lt;have l_B:=Ad Rw53_B.1;have l_Kd:=Ad Rw53_Kd.1;have l_P:=Ad Rw53_P.1;obtain ⟨l_A,xA⟩:=Ki RA.1;obtain ⟨l_B2,xB2⟩:=Ki RB2.1
     go_wp2_with fail
     go_roundg f
     case measure=>omega
     exact ⟨k+1,by first|rfl|(simp;done)|(simp;omega),by omega,by omega,_,_,_,_,hcf,HCw53.1,HSw53.1,Rw53_B.1,off_B⟩
    rw [if_neg ht] at hcf;have hne:∀W,(Op.equalIn 10000 101 (.agg #[.int .i64 ra.1,.string ra.2]) (.agg #[.int .i64 rb.1,.string rb.2])).run Tryz.prog W= .ok false W:=fun W=>(Iw W 9998 ra rb).trans (by rw [decide_eq_false (fun h=>ht (Hy.2 h))])
    obtain ⟨l_c,xc_0,xc_1,xc_2,xc_3,xc_4,xc_5,xc_6,xc_7,xc_8,xc_9,xc_10,yc_0,yc_1,yc_2,yc_3,yc_4,yc_5,yc_6,yc_7,yc_8,yc_9,yc_10⟩:=Cp HCw53.1.row;obtain ⟨-,l_mf,l_ms,l_mn⟩:=HCw53.1.lt;have l_B:=Ad Rw53_B.1;have l_Kd:=Ad Rw53_Kd.1;have l_P:=Ad Rw53_P.1;obtain ⟨l_A,xA⟩:=Ki RA.1;obtain ⟨l_B2,xB2⟩:=Ki RB2.1;have HAN:=zh (Vo HRA.1)
    go_upto_region 17 with fail
    obtain ⟨es,ek,hes,hes2⟩:=HCw53.1.same;have HEB:=zh hes;have HES:=zh hes2;clear hes hes2;have hup:=NO (W:=w53.drew) HEB.1 ra rb
    go_wp2_with fail
    go_region
    all_goals
     obtain ⟨l_c,l_mf,l_ms,l_mn⟩:=HCw53.1.lt;have l_B:=Ad Rw53_B.1;have l_Kd:=Ad Rw53_Kd.1;have l_P:=Ad Rw53_P.1;have l_A:=Ad RA.1;have l_B2:=Ad RB2.1
     go_wp2_with fail
     go_roundg f
     case measure=>omega
     refine Ch (fun W=>Ac [K.ms] w53 W∧W.heap[K.ms]? =some (.map (Cm Cn (Cw ra (Cn rb) ek es).1) (Cw ra (Cn rb) ek es).2)) ⟨jg,(zc HEB.1 l_ms)⟩ ?_;rintro w54 ⟨Kw54,cw54_ms⟩;have Rw54_B:=zh (Kw54.at Rw53_B.1 (by simp [n_B_ms]));have Rw54_Kd:=zh (Kw54.at Rw53_Kd.1 (by simp [n_Kd_ms]));have Rw54_P:=zh (Kw54.at Rw53_P.1 (by simp [n_P_ms]));have Rw54_A:=zh (Kw54.at RA.1 (by simp [n_A_ms]));have Rw54_B2:=zh (Kw54.at RB2.1 (by simp [n_B2_ms]));have HCw54:Hd (CK K T52 ua52 uc52 ({oo.2 with same:=oo.2.same++ [(ra,rb)]}) w54):=zh (HCw53.1.unite hK HAN.1 HES.1 Kw54 cw54_ms);have HSw54:=zh (HSw53.1.ms Kw54);have Rw54_ms:=zh cw54_ms;clear Kw54 cw54_ms l_c l_B l_Kd l_P l_A l_B2 l_mf l_ms l_mn Rw53_B Rw53_Kd Rw53_P RA RB2 HCw53 HSw53;exact ⟨k+1,by first|rfl|(simp;done)|(simp;omega),by omega,by omega,_,_,_,_,hcf,HCw54.1,HSw54.1,Rw54_B.1,off_B⟩
   rw [if_pos h4] at hcf;simp only [Option.bind_eq_bind,Option.bind_eq_some_iff] at hcf;obtain ⟨s2,hu,s3,hr,hcf⟩:=hcf;obtain ⟨hul,rfl⟩:=Jh hu;have HUL:=zh hul;have e4:(kk.kind==4)=false:=beq_false_of_ne h4;have e5:(kk.kind !=4)=true:=by simp [h4]
   clear hu hul;obtain ⟨l_c,l_mf,l_ms,l_mn⟩:=HCr.1.lt;have l_mf_1:K.mf<wr.heap.size+1:=Nat.lt_add_right 1 l_mf;have l_ms_1:K.ms<wr.heap.size+1:=Nat.lt_add_right 1 l_ms;have l_mn_1:K.mn<wr.heap.size+1:=Nat.lt_add_right 1 l_mn;have l_B:=Ad RB.1;have l_B_1:w.heap.size<wr.heap.size+1:=Nat.lt_add_right 1 l_B;have l_c_1:K.c<wr.heap.size+1:=Nat.lt_add_right 1 l_c
   go_upto_region 12 with fail
   refine Bj (fun W=>Ac [] wr W∧W.heap[wr.heap.size]? =some (.cells #[.int .i64 kk.kind,.string kk.name,.float .f64 fm3,.slice na3 kk.kids.length nc3,.complex .f64 kk.re kk.im] 50 (0,0))∧W.heap[wr.heap.size+1]? =some (.cells #[.int .i64 fn,.string q] 101 (0,0))) ⟨jg,jd,jd⟩ ?_;rintro w51 ⟨Kw51,cw51_Kd,cw51_P⟩;have ⟨n_c_Kd,n_Kd_c⟩:=Ai l_c;have ⟨n_mf_Kd,n_Kd_mf⟩:=Ai l_mf;have ⟨n_ms_Kd,n_Kd_ms⟩:=Ai l_ms;have ⟨n_mn_Kd,n_Kd_mn⟩:=Ai l_mn;have ⟨n_B_Kd,n_Kd_B⟩:=Ai l_B;have o_Kd:w.heap.size≤wr.heap.size:=HSr.1.size;have off_Kd:Fu K T1 (wr.heap.size):=Ao HCr.1 (Nat.le_refl _);have o0_Kd:K.w0.heap.size≤wr.heap.size:=Nat.le_trans HCr.1.keep.size (Nat.le_refl _);have ⟨n_c_P,n_P_c⟩:=Ai (Nat.lt_add_right 1 l_c);have ⟨n_mf_P,n_P_mf⟩:=Ai (Nat.lt_add_right 1 l_mf);have ⟨n_ms_P,n_P_ms⟩:=Ai (Nat.lt_add_right 1 l_ms);have ⟨n_mn_P,n_P_mn⟩:=Ai (Nat.lt_add_right 1 l_mn);have ⟨n_B_P,n_P_B⟩:=Ai (Nat.lt_add_right 1 l_B);have n_Kd_P:wr.heap.size≠wr.heap.size+1:=by simp
   have n_P_Kd:wr.heap.size+1≠wr.heap.size:=by simp
   have o_P:w.heap.size≤wr.heap.size+1:=Nat.le_trans (HSr.1.size) (Nat.le_add_right _ 1);have off_P:Fu K T1 (wr.heap.size+1):=Ao HCr.1 (Nat.le_add_right _ 1);have o0_P:K.w0.heap.size≤wr.heap.size+1:=Nat.le_trans HCr.1.keep.size (Nat.le_add_right _ 1);have Rw51_B:=zh (Kw51.at RB.1 qg);have HCw51:=zh (HCr.1.kp0 Kw51);have HSw51:=zh (HSr.1.loc Kw51 qg);have Rw51_Kd:=zh cw51_Kd;have Rw51_P:=zh cw51_P;clear Kw51 cw51_Kd cw51_P l_c l_c_1 l_B l_B_1 l_mf_1 l_ms_1 l_mn_1 l_mf l_ms l_mn RB HCr HSr;obtain ⟨l_c,xc_0,xc_1,xc_2,xc_3,xc_4,xc_5,xc_6,xc_7,xc_8,xc_9,xc_10,yc_0,yc_1,yc_2,yc_3,yc_4,yc_5,yc_6,yc_7,yc_8,yc_9,yc_10⟩:=Cp HCw51.1.row;obtain ⟨-,l_mf,l_ms,l_mn⟩:=HCw51.1.lt;have l_B:=Ad Rw51_B.1;obtain ⟨l_Kd,xKd⟩:=Bv Rw51_Kd.1;obtain ⟨l_P,xP⟩:=Ki Rw51_P.1;obtain ⟨i1,hi1,hi2,hi3,hi4⟩:=Oi;have HI:=zh (And.intro hi1 (And.intro hi2 (And.intro hi3 hi4)));clear hi1 hi2 hi3 hi4
   go_cut [] (fun W=>∃T' ua' uc',CK K T' ua' uc' ({st1 with uses:=st1.uses++ [(⟨kk.re,kk.im,Gs,false,(fn,q),true,false⟩:Kf)]}) W∧Ak K T1 T' w51 W)
   case first=>
    go_region_law (refine Gr (fun W=>Ac [] w51 W∧W.heap[w51.heap.size]? =some (.cells #[.complex .f64 kk.re kk.im,.int .i64 0,.string ⟨#[]⟩,.bool false,.int .i64 fn,.string q,.bool true,.bool false] 106 (0,0))) ⟨jg,qd⟩ ?_;rintro wq ⟨hkq,cG⟩;refine Fk Ui rfl (.tmp 65) (.tmp 70) 68 rfl Tryz.underlying68 HI.1.1 HI.1.2.1 HI.1.2.2.1 HI.1.2.2.2 rfl zi zi rfl rfl (HCw51.1.kp0 hkq).uses (c:= [.complex .f64 kk.re kk.im,.int .i64 0,.string ⟨#[]⟩,.bool false,.int .i64 fn,.string q,.bool true,.bool false]) cG (x:=(⟨kk.re,kk.im,Gs,false,(fn,q),true,false⟩:Kf)) (S:=fun _=>False) rfl (fun _ h=>h.elim) (fun _ h=>h.elim) (HCw51.1.kp0 hkq).up (HCw51.1.kp0 hkq).keep.size (Nat.le_of_lt HUL.1) ?_;rintro va wa fl hfl hka hown;obtain ⟨ka2,kc2,hva,-⟩:=hown.slice;obtain ⟨kn,hkn⟩:∃k,k=((st1).uses++ [(⟨kk.re,kk.im,Gs,false,(fn,q),true,false⟩:Kf)]).length:=⟨_,rfl⟩;rw [←hkn] at hva;subst hva;have HKN:=zh hkn;clear hkn;have r_c:=hka.at (HCw51.1.kp0 hkq).row (fun h=>(HCw51.1.kp0 hkq).ns.1 (hfl _ h));have lw_c:=Ad r_c;have z0:=Aa r_c 0;have z1:=Aa r_c 1;have z2:=Aa r_c 2;have z3:=Aa r_c 3;have z4:=Aa r_c 4;have z5:=Aa r_c 5;have z6:=Aa r_c 6;have z7:=Aa r_c 7;have z8:=Aa r_c 8;have z9:=Aa r_c 9;have z10:=Aa r_c 10;have zf0:=Ab r_c 0;have zf1:=Ab r_c 1;have zf2:=Ab r_c 2;have zf3:=Ab r_c 3;have zf4:=Ab r_c 4;have zf5:=Ab r_c 5;have zf6:=Ab r_c 6;have zf7:=Ab r_c 7;have zf8:=Ab r_c 8;have zf9:=Ab r_c 9;have zf10:=Ab r_c 10;simp at z0 z1 z2 z3 z4 z5 z6 z7 z8 z9 z10)
    all_goals
     go_wp2_with fail
     go_meet
     have hkn:=HKN.1;subst hkn;exact CK.app hK (Ak.refl K T1 w51) HCw51.1 hkq hfl hka hown jg (ja r_c)
   obtain ⟨T52,ua52,uc52,hc,hs⟩:=hcut;generalize wc=w53 at*
   clear l_c xc_0 xc_1 xc_2 xc_3 xc_4 xc_5 xc_6 xc_7 xc_8 xc_9 xc_10 yc_0 yc_1 yc_2 yc_3 yc_4 yc_5 yc_6 yc_7 yc_8 yc_9 yc_10 l_B l_Kd xKd l_P xP l_mf l_ms l_mn HI;have off2_B:=hs.off (Ad Rw51_B.1) off_B;have Rw53_B:=zh (hs.at Rw51_B.1 off_B);have off2_Kd:=hs.off (Ad Rw51_Kd.1) off_Kd;have Rw53_Kd:=zh (hs.at Rw51_Kd.1 off_Kd);have off2_P:=hs.off (Ad Rw51_P.1) off_P;have Rw53_P:=zh (hs.at Rw51_P.1 off_P);have off_B':=off2_B;have off_Kd':=off2_Kd;have off_P':=off2_P;have HCw53:=zh hc;have HSw53:=zh (HSw51.1.trans hs);clear Rw51_B off_B Rw51_Kd off_Kd Rw51_P off_P HCw51 HSw51 hc hs;have off_B:=off_B';clear off_B' off2_B;have off_Kd:=off_Kd';clear off_Kd' off2_Kd;have off_P:=off_P';clear off_P' off2_P;obtain ⟨l_c,l_mf,l_ms,l_mn⟩:=HCw53.1.lt;have l_B:=Ad Rw53_B.1;obtain ⟨l_Kd,xKd⟩:=Bv Rw53_Kd.1;have l_P:=Ad Rw53_P.1
   go_wp2_with fail
   clear l_c l_B l_Kd xKd l_P l_mf l_ms l_mn;refine (HREC.1 _ _ _ _ hr hkn _ _ _ _ HCw53.1).mono ?_;rintro r e54 ⟨T54,ua54,uc54,rfl,hc,hs⟩;have off2_B:=hs.off (Ad Rw53_B.1) off_B;have Re54_B:=zh (hs.at Rw53_B.1 off_B);have off2_Kd:=hs.off (Ad Rw53_Kd.1) off_Kd;have Re54_Kd:=zh (hs.at Rw53_Kd.1 off_Kd);have off2_P:=hs.off (Ad Rw53_P.1) off_P;have Re54_P:=zh (hs.at Rw53_P.1 off_P);have off_B':=off2_B;have off_Kd':=off2_Kd;have off_P':=off2_P;have HCe54:=zh hc;have HSe54:=zh (HSw53.1.trans hs);clear Rw53_B off_B Rw53_Kd off_Kd Rw53_P off_P HCw53 HSw53 hc hs;have off_B:=off_B';clear off_B' off2_B;have off_Kd:=off_Kd';clear off_Kd' off2_Kd;have off_P:=off_P';clear off_P' off2_P;obtain ⟨l_c,l_mf,l_ms,l_mn⟩:=HCe54.1.lt;have l_B:=Ad Re54_B.1;have l_Kd:=Ad Re54_Kd.1;have l_P:=Ad Re54_P.1
   go_wp2_with fail
   go_roundg f
   case measure=>omega
   exact ⟨k+1,by first|rfl|(simp;done)|(simp;omega),by omega,by omega,_,_,_,_,hcf,HCe54.1,HSe54.1,Re54_B.1,off_B⟩
 have hke:k=kids.length:=by omega
 subst hke;rw [List.drop_length] at hcf;have hst:st1=st':=by cases hd:K.g.funcs[i].params.drop kids.length<;>(rw [hd] at hcf;simpa [Gh] using hcf)
 subst hst;clear hcf;obtain ⟨l_c,l_mf,l_ms,l_mn⟩:=HCr.1.lt
 go_wp2_with fail
 refine Cq (v:= .tuple #[]) (fun W=>Ac [] wr W) jg (fun w51 hW=> ?_) rfl (fun w51 hW=> ?_)
 ·have Kw51:Ac [] wr w51:=hW;exact Le
 have Kw51:Ac [] wr w51:=hW;have HCw51:=zh (HCr.1.kp0 Kw51);have HSw51:=zh (HSr.1.loc Kw51 qg);clear Kw51 l_c l_mf l_ms l_mn HCr HSr;exact ZO
end Go.Proofs.YtkfillfkbhbbjaaGreatDoor
