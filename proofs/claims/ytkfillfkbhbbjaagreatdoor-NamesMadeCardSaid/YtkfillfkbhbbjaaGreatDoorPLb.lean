/- Stop, Things, NSpec, NSpecW, PLa, PLb. -/
import Derived.Test.YtkfillfkbhbbjaaGreatDoorLevelsD
import Derived.Laws.StructEq
import Derived.WideKeyRuns
set_option maxRecDepth 100000
set_option maxHeartbeats 4000000
set_option linter.unusedSimpArgs false
set_option linter.unusedVariables false
namespace Go.Proofs.YtkfillfkbhbbjaaGreatDoor
open Go.RowKit
theorem An{P:Program}{f:FuncId}{args:Array Value}{Q:Ending→World→Prop}{W:World}(F:World→Prop)(hF:F W)(h:∀W',F W'→Calls P f args W' Q):Calls P f args W Q:=h W hF
theorem Ap{P:Program}{fn:Func}{R:Ending→World→Prop}{a:Act}{W:World}{v:Value}(F:World→Prop)(hF:F W)(hr:∀W',F W'→(results fn a.tmps).run P W'= .ok v W')(hd:a.defers= [])
 (hR:∀W',F W'→R (.returned v) W'):bodyPost P fn R .ret a W:=⟨hd,v,hr W hF,hR W hF⟩
theorem Bj{P:Program}{c:Code}{Q:Exit→Act→World→Prop}{a:Act}{W:World}(F:World→Prop)(hF:F W)(h:∀W',F W'→c.wp P Q a W'):c.wp P Q a W:=h W hF
theorem Hz{P:Program}{ops l:List Oper}{Q:Exit→Act→World→Prop}{a:Act}{W:World}(F:World→Prop)(hF:F W)(h:∀W',F W'→wpList P ops.toArray Q l a W'):wpList P ops.toArray Q l a W:=h W hF
theorem Ch{G:World→Prop}{W:World}(F:World→Prop)(hF:F W)(h:∀W',F W'→G W'):G W:=h W hF
theorem Cq{P:Program}{fn:Func}{R:Ending→World→Prop}{a:Act}{W:World}{v:Value}(F:World→Prop)(hF:F W)(hr:∀W',F W'→(results fn a.tmps).run P W'= .ok v W')(hd:a.defers= [])
 (hR:∀W',F W'→R (.returned v) W'):bodyPost P fn R .normal a W:=⟨hd,v,hr W hF,hR W hF⟩
theorem FZ{fp:List Nat}{w W:World}(h:Ac fp w W)(o:Obj):Ac fp w (W.alloc o):=h.trans (fp':= []) (Ac.alloc [] W o) qg
theorem PD{fp:List Nat}{w W:World}(h:Ac fp w W){b i:Nat}{u:Value}(hb:b∈fp∨w.heap.size≤b):Ac fp w (W.setCell ⟨b,i,none⟩ u):=
 h.trans (fp':= [b]) (Ac.setCell _ _ _ _ qg) (by simpa using hb)
theorem LL{fp:List Nat}{w W:World}(h:Ac fp w W):Ac fp w W.drew:=h.trans (fp':= []) (Ac.drew [] W) qg
/-! ### what a block holds, as an equation -/
def Obj.put:Obj→Nat→Value→Obj
 | .cells c T f,i,u=> .cells (c.setIfInBounds i u) T f
 |o,_,_=>o
theorem Nn(w:World)(b i k:Nat)(u:Value):(w.setCell ⟨b,i,none⟩ u).heap[k]? =if k=b then (w.heap[k]?).map (fun o=>Obj.put o i u) else w.heap[k]? :=by
 by_cases h:k=b
 ·subst h;rw [if_pos rfl]
  by_cases hk:k<w.heap.size
  ·cases hx:w.heap[k]? with
   |none=>simp at hx;omega
   |some o=>
    cases o with
    |cells c T f=>simpa [Obj.put] using Di (i:=i) (u:=u) hx
    |_=>simp [World.setCell,Array.getElem?_modify,hx,Obj.put]
  rw [Array.getElem?_eq_none (by simp [World.setCell];omega),Array.getElem?_eq_none jh];rfl
 rw [if_neg h,Below.heap_setCell _ _ _ _ h]
theorem Pc(w:World)(o:Obj)(k:Nat):(w.alloc o).heap[k]? =if k=w.heap.size then some o else w.heap[k]? :=by
 by_cases h:k=w.heap.size
 ·subst h;rw [if_pos rfl];exact Ca w o
 rw [if_neg h]
 by_cases hk:k<w.heap.size
 ·exact (MapKept.heap_alloc w o).2 k hk
 rw [Array.getElem?_eq_none qi,Array.getElem?_eq_none jh]
theorem LN(w:World)(k:Nat):w.drew.heap[k]? =w.heap[k]? :=rfl
/-! ### a row's cells, all at once; short names -/
theorem Ki{w:World}{b:Nat}{T:TypeId}{c0 c1:Value}(h:w.heap[b]? =some (.cells #[c0,c1] T (0,0))):b<w.heap.size∧w.cell? ⟨b,0,none⟩=some c0∧w.cell? ⟨b,1,none⟩=some c1∧w.frozen? ⟨b,0,none⟩=false∧w.frozen? ⟨b,1,none⟩=false:=
 ⟨Ad h,Aa h 0,Aa h 1,Ab h 0,Ab h 1⟩
theorem Lr{w:World}{b:Nat}{T:TypeId}{c0 c1 c2:Value}(h:w.heap[b]? =some (.cells #[c0,c1,c2] T (0,0))):b<w.heap.size∧w.cell? ⟨b,0,none⟩=some c0∧w.cell? ⟨b,1,none⟩=some c1∧w.cell? ⟨b,2,none⟩=some c2∧w.frozen? ⟨b,0,none⟩=false∧w.frozen? ⟨b,1,none⟩=false∧w.frozen? ⟨b,2,none⟩=false:=
 ⟨Ad h,Aa h 0,Aa h 1,Aa h 2,Ab h 0,Ab h 1,Ab h 2⟩
theorem Bv{w:World}{b:Nat}{T:TypeId}{c0 c1 c2 c3 c4:Value}(h:w.heap[b]? =some (.cells #[c0,c1,c2,c3,c4] T (0,0))):b<w.heap.size∧w.cell? ⟨b,0,none⟩=some c0∧w.cell? ⟨b,1,none⟩=some c1∧w.cell? ⟨b,2,none⟩=some c2∧w.cell? ⟨b,3,none⟩=some c3∧w.cell? ⟨b,4,none⟩=some c4∧w.frozen? ⟨b,0,none⟩=false∧w.frozen? ⟨b,1,none⟩=false∧w.frozen? ⟨b,2,none⟩=false∧w.frozen? ⟨b,3,none⟩=false∧w.frozen? ⟨b,4,none⟩=false:=
 ⟨Ad h,Aa h 0,Aa h 1,Aa h 2,Aa h 3,Aa h 4,Ab h 0,Ab h 1,Ab h 2,Ab h 3,Ab h 4⟩
theorem JO{w:World}{b:Nat}{T:TypeId}{c0 c1 c2 c3 c4 c5:Value}(h:w.heap[b]? =some (.cells #[c0,c1,c2,c3,c4,c5] T (0,0))):b<w.heap.size∧w.cell? ⟨b,0,none⟩=some c0∧w.cell? ⟨b,1,none⟩=some c1∧w.cell? ⟨b,2,none⟩=some c2∧w.cell? ⟨b,3,none⟩=some c3∧w.cell? ⟨b,4,none⟩=some c4∧w.cell? ⟨b,5,none⟩=some c5∧w.frozen? ⟨b,0,none⟩=false∧w.frozen? ⟨b,1,none⟩=false∧w.frozen? ⟨b,2,none⟩=false∧w.frozen? ⟨b,3,none⟩=false∧w.frozen? ⟨b,4,none⟩=false∧w.frozen? ⟨b,5,none⟩=false:=
 ⟨Ad h,Aa h 0,Aa h 1,Aa h 2,Aa h 3,Aa h 4,Aa h 5,Ab h 0,Ab h 1,Ab h 2,Ab h 3,Ab h 4,Ab h 5⟩
theorem Rh{w:World}{b:Nat}{T:TypeId}{c0 c1 c2 c3 c4 c5 c6 c7:Value}(h:w.heap[b]? =some (.cells #[c0,c1,c2,c3,c4,c5,c6,c7] T (0,0))):b<w.heap.size∧w.cell? ⟨b,0,none⟩=some c0∧w.cell? ⟨b,1,none⟩=some c1∧w.cell? ⟨b,2,none⟩=some c2∧w.cell? ⟨b,3,none⟩=some c3∧w.cell? ⟨b,4,none⟩=some c4∧w.cell? ⟨b,5,none⟩=some c5∧w.cell? ⟨b,6,none⟩=some c6∧w.cell? ⟨b,7,none⟩=some c7∧w.frozen? ⟨b,0,none⟩=false∧w.frozen? ⟨b,1,none⟩=false∧w.frozen? ⟨b,2,none⟩=false∧w.frozen? ⟨b,3,none⟩=false∧w.frozen? ⟨b,4,none⟩=false∧w.frozen? ⟨b,5,none⟩=false∧w.frozen? ⟨b,6,none⟩=false∧w.frozen? ⟨b,7,none⟩=false:=
 ⟨Ad h,Aa h 0,Aa h 1,Aa h 2,Aa h 3,Aa h 4,Aa h 5,Aa h 6,Aa h 7,Ab h 0,Ab h 1,Ab h 2,Ab h 3,Ab h 4,Ab h 5,Ab h 6,Ab h 7⟩
theorem BI{w:World}{b:Nat}{T:TypeId}{c0 c1 c2 c3 c4 c5 c6 c7 c8:Value}(h:w.heap[b]? =some (.cells #[c0,c1,c2,c3,c4,c5,c6,c7,c8] T (0,0))):b<w.heap.size∧w.cell? ⟨b,0,none⟩=some c0∧w.cell? ⟨b,1,none⟩=some c1∧w.cell? ⟨b,2,none⟩=some c2∧w.cell? ⟨b,3,none⟩=some c3∧w.cell? ⟨b,4,none⟩=some c4∧w.cell? ⟨b,5,none⟩=some c5∧w.cell? ⟨b,6,none⟩=some c6∧w.cell? ⟨b,7,none⟩=some c7∧w.cell? ⟨b,8,none⟩=some c8∧w.frozen? ⟨b,0,none⟩=false∧w.frozen? ⟨b,1,none⟩=false∧w.frozen? ⟨b,2,none⟩=false∧w.frozen? ⟨b,3,none⟩=false∧w.frozen? ⟨b,4,none⟩=false∧w.frozen? ⟨b,5,none⟩=false∧w.frozen? ⟨b,6,none⟩=false∧w.frozen? ⟨b,7,none⟩=false∧w.frozen? ⟨b,8,none⟩=false:=
 ⟨Ad h,Aa h 0,Aa h 1,Aa h 2,Aa h 3,Aa h 4,Aa h 5,Aa h 6,Aa h 7,Aa h 8,Ab h 0,Ab h 1,Ab h 2,Ab h 3,Ab h 4,Ab h 5,Ab h 6,Ab h 7,Ab h 8⟩
theorem Cp{w:World}{b:Nat}{T:TypeId}{c0 c1 c2 c3 c4 c5 c6 c7 c8 c9 c10:Value}(h:w.heap[b]? =some (.cells #[c0,c1,c2,c3,c4,c5,c6,c7,c8,c9,c10] T (0,0))):b<w.heap.size∧w.cell? ⟨b,0,none⟩=some c0∧w.cell? ⟨b,1,none⟩=some c1∧w.cell? ⟨b,2,none⟩=some c2∧w.cell? ⟨b,3,none⟩=some c3∧w.cell? ⟨b,4,none⟩=some c4∧w.cell? ⟨b,5,none⟩=some c5∧w.cell? ⟨b,6,none⟩=some c6∧w.cell? ⟨b,7,none⟩=some c7∧w.cell? ⟨b,8,none⟩=some c8∧w.cell? ⟨b,9,none⟩=some c9∧w.cell? ⟨b,10,none⟩=some c10∧w.frozen? ⟨b,0,none⟩=false∧w.frozen? ⟨b,1,none⟩=false∧w.frozen? ⟨b,2,none⟩=false∧w.frozen? ⟨b,3,none⟩=false∧w.frozen? ⟨b,4,none⟩=false∧w.frozen? ⟨b,5,none⟩=false∧w.frozen? ⟨b,6,none⟩=false∧w.frozen? ⟨b,7,none⟩=false∧w.frozen? ⟨b,8,none⟩=false∧w.frozen? ⟨b,9,none⟩=false∧w.frozen? ⟨b,10,none⟩=false:=
 ⟨Ad h,Aa h 0,Aa h 1,Aa h 2,Aa h 3,Aa h 4,Aa h 5,Aa h 6,Aa h 7,Aa h 8,Aa h 9,Aa h 10,Ab h 0,Ab h 1,Ab h 2,Ab h 3,Ab h 4,Ab h 5,Ab h 6,Ab h 7,Ab h 8,Ab h 9,Ab h 10⟩
theorem k0(fp:List Nat)(w:World):Ac fp w w:=Ac.refl _ _
theorem kA{fp:List Nat}{w W:World}(h:Ac fp w W)(o:Obj):Ac fp w (W.alloc o):=FZ h o
theorem kD{fp:List Nat}{w W:World}(h:Ac fp w W):Ac fp w W.drew:=LL h
theorem kS{fp:List Nat}{w W:World}(h:Ac fp w W){b i:Nat}{u:Value}(hb:b∈fp∨w.heap.size≤b):Ac fp w (W.setCell ⟨b,i,none⟩ u):=PD h hb
theorem kM{fp:List Nat}{w W:World}(h:Ac fp w W){b:Nat}{o:Obj}(hb:b∈fp∨w.heap.size≤b):Ac fp w (mset W b o):=
 h.trans (fp':= [b]) (Ac.mset _ _ _ _ qg) (by simpa using hb)
theorem hS(w:World)(b i k:Nat)(u:Value):(w.setCell ⟨b,i,none⟩ u).heap[k]? =if k=b then (w.heap[k]?).map (fun o=>Obj.put o i u) else w.heap[k]? :=Nn w b i k u
theorem hA(w:World)(o:Obj)(k:Nat):(w.alloc o).heap[k]? =if k=w.heap.size then some o else w.heap[k]? :=Pc w o k
theorem hD(w:World)(k:Nat):w.drew.heap[k]? =w.heap[k]? :=rfl
theorem hM(w:World)(b k:Nat)(o:Obj):(mset w b o).heap[k]? =if k=b then (w.heap[k]?).map (fun _=>o) else w.heap[k]? :=by
 by_cases h:k=b
 ·subst h;rw [if_pos rfl]
  by_cases hk:k<w.heap.size
  ·rw [AZ hk];simp [hk]
  rw [Array.getElem?_eq_none (by simp [mset];omega),Array.getElem?_eq_none jh];rfl
 rw [if_neg h,Jf h]
/-! ### nodes in a stretch of blocks -/
def Dm(a b:Nat):Nat→Prop:=fun g=>a≤g∧g<b
mutual
theorem Au.segS{w:World}{S:Nat→Prop}{n:Af}{v:Value}(h:Au w S n v):Au w (fun g=>S g∧g<w.heap.size) n v:=by
 cases h with
 |mk h=>exact .mk (Bc.segS h)
theorem Bc.segS{w:World}{S:Nat→Prop}{ns:List Af}{v:Value}(h:Bc w S ns v):Bc w (fun g=>S g∧g<w.heap.size) ns v:=by
 cases h with
 |nil=>exact .nil
 |some hS hg h=>exact .some ⟨hS,hg⟩ hg (Hx.segS h)
theorem Hx.segS{w:World}{S:Nat→Prop}{g o:Nat}{ns:List Af}(h:Hx w S g o ns):Hx w (fun g=>S g∧g<w.heap.size) g o ns:=by
 cases h with
 |nil=>exact .nil
 |cons hn h0 h1 h2 h3 h4 hr=>exact .cons (Au.segS hn) h0 h1 h2 h3 h4 (Hx.segS hr)
end
theorem Au.seg{w:World}{a:Nat}{n:Af}{v:Value}(h:Au w (fun g=>a≤g) n v):Au w (Dm a w.heap.size) n v:=h.segS
theorem Bc.seg{w:World}{a:Nat}{n:List Af}{v:Value}(h:Bc w (fun g=>a≤g) n v):Bc w (Dm a w.heap.size) n v:=h.segS
theorem Au.kp{w w':World}{S:Nat→Prop}{fp:List Nat}{n:Af}{v:Value}(h:Au w S n v)(hk:Ac fp w w')(hf:∀x∈fp,¬S x):Au w' S n v:=h.keep hk hf fun _ h=>h
theorem Bc.kp{w w':World}{S:Nat→Prop}{fp:List Nat}{n:List Af}{v:Value}(h:Bc w S n v)(hk:Ac fp w w')(hf:∀x∈fp,¬S x):Bc w' S n v:=h.keep hk hf fun _ h=>h
theorem Au.to{w:World}{S T:Nat→Prop}{n:Af}{v:Value}(h:Au w S n v)(hT:∀x,S x→T x):Au w T n v:=h.keep (Ac.refl [] w) qg hT
theorem Bc.to{w:World}{S T:Nat→Prop}{n:List Af}{v:Value}(h:Bc w S n v)(hT:∀x,S x→T x):Bc w T n v:=h.keep (Ac.refl [] w) qg hT
theorem row1{w:World}{S T:Nat→Prop}{n:Af}{c0 c1 c2 c3 c4:Value}{g:Nat}{f:Nat×Nat}(h:Au w S n (.agg #[c0,c1,c2,c3,c4]))(hT:∀x,S x→T x)(hr:w.heap[g]? =some (.cells #[c0,c1,c2,c3,c4] 50 f)):Hx w T g 0 [n]:=
 .cons (h.to hT) jm jm jm jm jm .nil
theorem row2{w:World}{S S' T:Nat→Prop}{n m:Af}{c0 c1 c2 c3 c4 d0 d1 d2 d3 d4:Value}{g:Nat}{f:Nat×Nat}(h:Au w S n (.agg #[c0,c1,c2,c3,c4]))(hT:∀x,S x→T x)(h':Au w S' m (.agg #[d0,d1,d2,d3,d4]))(hT':∀x,S' x→T x)
  (hr:w.heap[g]? =some (.cells #[c0,c1,c2,c3,c4,d0,d1,d2,d3,d4] 50 f)):Hx w T g 0 [n,m]:=
 .cons (h.to hT) jm jm jm jm jm
  (.cons (h'.to hT') jm jm jm jm jm .nil)
theorem PP.upd{s:ByteArray}{p:Nat}{st st':Bq}{W W':World}{fp:List Nat}(h:PP s p st W)(hk:Ac fp W W')(hf:∀x∈fp,14<x)(hr:W'.heap[p]? =some (LD s st'))(hl:st'.pos≤s.size)(ho: -100≤st'.opn∧st'.opn≤40):PP s p st' W':=
 ⟨h.gl.keep hk hf,hr,h.p,h.size,hl,ho⟩
theorem Wu{s:ByteArray}{p:Nat}{st st':Bq}{n:Af}{f:FuncId}{b:World}(h:Aw s p st st' n f)(hp:PP s p st b)(W:World)(hk:Ac [] b W):
  Calls Tryz.prog f #[.pointer (some ⟨p,0,none⟩)] W fun r w'=>∃v,r= .returned v∧(Au w' (Dm b.heap.size w'.heap.size) n v∧PP s p st' w'∧Ac [p] b w'):=
 (h W (hp.keep hk)).mono fun _ _ ⟨v,hr,hn,hp',hk'⟩=>⟨v,hr,(hn.to fun _ h=>Nat.le_trans hk.size h).seg,hp',(hk.weaken qg).trans hk' qg⟩
end Go.Proofs.YtkfillfkbhbbjaaGreatDoor
namespace Go.Proofs.YtkfillfkbhbbjaaGreatDoor
open Go.RowKit Go.MapKept
structure Ls (κ:Type) where
 key:κ
 val:Value
 born:Nat
def Cm{κ:Type}(emb:κ→Value)(l:List (Ls κ)):Array MapEntry:=(l.map fun e=>⟨emb e.key,e.val,e.born⟩).toArray
def Ei{κ:Type}[DecidableEq κ](k:κ):List (Ls κ)→Nat→Option (Nat×Value)
 | [],_=>none
 |e::es,i=>if k=e.key then some (i,e.val) else Ei k es (i+1)
def Ma{κ:Type}[DecidableEq κ](k:κ)(l:List (Ls κ)):Option Value:=(Ei k l 0).map (·.2)
def Cw{κ:Type}[DecidableEq κ](k:κ)(v:Value)(clock:Nat)(l:List (Ls κ)):List (Ls κ)×Nat:=
 match Ei k l 0 with
 |some (i,_)=>(l.modify i fun e=>{e with val:=v},clock)
 |none=>(l++ [⟨k,v,clock⟩],clock+1)
theorem Wl{κ:Type}[DecidableEq κ]{k:κ}:∀{l:List (Ls κ)} {i j:Nat} {v:Value},Ei k l i=some (j,v)→i≤j∧∃e,l[j -i]? =some e∧e.key=k∧e.val=v
 | [],_,_,_,h=>by cases h
 | e::es,i,j,v,h=>by
   unfold Ei at h
   split at h
   ·rename_i hk;simp only [Option.some.injEq,Prod.mk.injEq] at h;obtain ⟨rfl,rfl⟩:=h;exact ⟨Nat.le_refl _,e,by simp,hk.symm,rfl⟩
   obtain ⟨h1,e',h2,h3⟩:=Wl h;refine ⟨by omega,e', ?_,h3⟩;rw [show j -i=(j -(i+1))+1 from by omega]
   simpa using h2
structure RN {κ:Type} [DecidableEq κ] (P:Program) (K:TypeId) (emb:κ→Value):Prop where
 find:∀(w:World) (k:κ) (l:List (Ls κ)),(Instr.findKey K (emb k) (Cm emb l).toList).run P w= .ok (Ei k l 0) w
 check:∀(w:World) (em:Bool) (k:κ),(Instr.checkKey em 10000 K (emb k)).run P w= .ok () w
 stays:∀(w:World) (k:κ),(Instr.keyThatStays (emb k) (emb k)).run P w= .ok (emb k) w
section
variable {P:Program} {κ:Type} [DecidableEq κ] {T K E:TypeId} {emb:κ→Value} {b clock:Nat} {l:List (Ls κ)} {w:World}
theorem Qj(hK:RN P K emb)(hT:P.underlying T=some (.map K E)){z:Value}(hz:(zeroValue E).run P w= .ok z w)(hb:w.heap[b]? =some (.map (Cm emb l) clock))(k:κ):(Instr.lookup T (.map (some b)) (emb k) true).run P w= .ok (.tuple #[(Ma k l).getD z,.bool (Ma k l).isSome]) w:=by
 exact qje
theorem Yp(hK:RN P K emb)(hT:P.underlying T=some (.map K E)){z:Value}(hz:(zeroValue E).run P w= .ok z w)(hb:w.heap[b]? =some (.map (Cm emb l) clock))(k:κ):(Instr.lookup T (.map (some b)) (emb k) false).run P w= .ok ((Ma k l).getD z) w:=by
 exact qje
theorem Qi(hK:RN P K emb)(hT:P.underlying T=some (.map K E))(hb:w.heap[b]? =some (.map (Cm emb l) clock))(k:κ)(v:Value):(Instr.mapUpdate T (.map (some b)) (emb k) v).run P w= .ok () (mset w b (.map (Cm emb (Cw k v clock l).1) (Cw k v clock l).2)):=by
 have hf:=hK.find w k l;unfold Cw
 cases h:Ei k l 0 with
 |none=>
  rw [h] at hf;simp only [Instr.mapUpdate,Sem.run_bind,run_underlying hT,MapKept.run_getObj_map hb,hK.check,hf,Result.andThen,run_setObj_map _ hb];simp [Cm,mset]
 |some x=>
  obtain ⟨i,u⟩:=x;rw [h] at hf;obtain ⟨_,e,he,hse,_⟩:=Wl h;have hi:(Cm emb l)[i]? =some ⟨emb e.key,e.val,e.born⟩:=by simp [Cm] at he⊢;exact ⟨e,he,rfl,rfl,rfl⟩
  have hkk:((((Cm emb l)[i]?).map (·.key)).getD (emb k))=emb k:=by rw [hi];simp [hse]
  simp only [Instr.mapUpdate,Sem.run_bind,run_underlying hT,MapKept.run_getObj_map hb,hK.check,hf,Result.andThen,run_setObj_map _ hb,hkk,hK.stays,mset]
  congr 4
  apply Array.ext';simp only [Cm,Array.toList_modify];apply List.ext_getElem?;intro j;simp only [List.getElem?_modify,List.getElem?_map]
  by_cases hij:i=j
  ·subst hij;simp only [Nat.sub_zero] at he;simp [he,hse]
  simp [hij]
end
/-! ### keys that are strings -/
theorem BJ{a b:ByteArray}:(a==b)=decide (a=b):=by
 by_cases h:a=b
 ·subst h;simp [(bytes_beq a a).2 rfl]
 have:¬(a==b)=true:=fun h2=>h ((bytes_beq a b).1 h2)
 simp [h,this]
theorem XD{P:Program}{K:TypeId}(hK:P.underlying K=some .string):RN P K (fun s:ByteArray=>Value.string s):={
 find:=fun w k l=>by
  refine run_findKey hK ?_
  have h:∀(l:List (Ls ByteArray)) (i:Nat),Instr.findNow .string (.string k) (l.map fun e=>(⟨.string e.key,e.val,e.born⟩:MapEntry)) i=some (Ei k l i):=by
   intro l
   induction l with
   |nil=>intro i;rfl
   |cons e es ih=>
    intro i;simp only [List.map_cons,Instr.findNow,Ei,Instr.sameNow]
    by_cases h:k=e.key
    ·subst h;simp [(bytes_beq e.key e.key).2 rfl]
    rw [BJ];simp [h,ih]
  simpa [Cm] using h l 0
 check:=fun w em k=>MapKept.run_checkKey hK (by simp [IsKey]) em 9999
 stays:=fun w k=>MapKept.run_keyThatStays (d:= .string) (by simp [IsKey])
 }
/-! ### keys that are things -/
abbrev Ae:=Nat×ByteArray
def Cn(t:Ae):Value:= .agg #[.int .i64 t.1,.string t.2]
theorem Iw(w:World)(d:Nat)(a b:Ae):(Op.equalIn (d+2) 101 (Cn a) (Cn b)).run Tryz.prog w= .ok (decide (a=b)) w:=by
 obtain ⟨x,y⟩:=a;obtain ⟨x2,y2⟩:=b;have hs:Tryz.prog.stoodInHeld 101=false:=by kernel_rfl
 unfold Cn;rw [run_equalIn_struct w (d+1) 101 _ _ (by rw [Program.fieldsOf,Tryz.underlying101]) hs];rw [Program.fieldsOf,Tryz.underlying101];simp [Op.eqFields,go_sem];have e1:((x:Int)=x2)=(x=x2):=propext ⟨fun h=>by omega,fun h=>by rw [h]⟩
 have e2:(y.toList=y2.toList)=(y=y2):=by
  rw [ByteArray.toList_eq,ByteArray.toList_eq];refine propext ⟨fun h=> ?_,fun h=>by rw [h]⟩
  cases y;cases y2;simpa using h
 simp only [e1,e2]
 by_cases h1:x=x2<;>by_cases h2:y=y2<;>simp [h1,h2]
theorem PC:RN Tryz.prog 101 Cn:={
 find:=fun w k l=>by
  rw [run_findKey_eq w (by rw [Tryz.underlying101])]
  have h:∀(l:List (Ls Ae)) (i:Nat),(Instr.findAsking 101 (Cn k) (l.map fun e=>(⟨Cn e.key,e.val,e.born⟩:MapEntry)) i).run Tryz.prog w= .ok (Ei k l i) w:=by
   intro l
   induction l with
   |nil=>intro i;simp [Instr.findAsking,Ei]
   |cons e es ih=>
    intro i;have he:=Iw w 9998 k e.key;simp only [List.map_cons,Instr.findAsking,Ei,Sem.run_bind,Op.equal,Op.maxDepth,he,Result.andThen]
    by_cases h:k=e.key
    ·simp [h]
    simp [h,ih]
  simpa [Cm] using h l 0
 check:=fun w em k=>by
  obtain ⟨x,y⟩:=k;have h3:∀n w,(Instr.checkKey em (n+1) 3 (.int .i64 x)).run Tryz.prog w= .ok () w:=fun n w=>MapKept.run_checkKey Tryz.underlying3 (by simp [IsKey]) em n
  have h9:∀n w,(Instr.checkKey em (n+1) 9 (.string y)).run Tryz.prog w= .ok () w:=fun n w=>MapKept.run_checkKey Tryz.underlying9 (by simp [IsKey]) em n
  show (Instr.checkKey em (9998+1+1) 101 (.agg #[.int .i64 x,.string y])).run Tryz.prog w= .ok () w;generalize (9998:Nat)=n at*
  rw [Instr.checkKey];simp only [Sem.run_bind,run_underlying Tryz.underlying101,Result.andThen];have hp1:(part 3 #[Value.int IntKind.i64 x,Value.string y] 0).run Tryz.prog w= .ok (.int .i64 x) w:=by simp [go_sem]
  have hp2:(part 9 #[Value.int IntKind.i64 x,Value.string y] 1).run Tryz.prog w= .ok (.string y) w:=by simp [go_sem]
  simp [hp1,hp2,h3,h9,Result.andThen]
 stays:=fun w k=>by
  obtain ⟨x,y⟩:=k;have:(y==y)=true:=(bytes_beq y y).2 rfl;simp [Instr.keyThatStays,Cn,Instr.sameBits,this]
 }
end Go.Proofs.YtkfillfkbhbbjaaGreatDoor
namespace Go.Proofs.YtkfillfkbhbbjaaGreatDoor
def Af.name:Af→ByteArray
 | .mk _ n _ _ _ _=>n
def Af.kids:Af→List Af
 | .mk _ _ _ k _ _=>k
structure Kf where
 re:Nat
 im:Nat
 of:Ae
 array:Bool
 param:Ae
 kid:Bool
 bad:Bool
structure NS where
 fn:Nat
 rule:Int
 loops:Int
 uses:List Kf
 same:List (Ae×Ae)
 seen:List Ae
 re:Nat
 im:Nat
 e:Int
def specials:List ByteArray:= [bs [78,82],bs [78,70],bs [70,83],bs [79,70,83],bs [79,82,83],bs [82,83],bs [83,85,66,83,69,80],bs [67,79,78,86,70,77,84],bs [79,70,77,84],bs [82,83,84,65,82,84],bs [82,76,69,78,71,84,72],bs [78,79,87],bs [71,65,80,83]]
def Dn(s:ByteArray):List ByteArray→Bool
 | []=>false
 |x::l=>if same s x then true else Dn s l
def Am(s:ByteArray):Bool:=Dn s specials
def Cb(name:ByteArray):List Az→Nat→Nat
 | [],_=>0
 |f::l,i=>if same name f.name then i+1 else Cb name l (i+1)
def flook(g:Ah)(name:ByteArray):Nat:=Cb name g.funcs 0
def Bk(g:Ah)(fn:Nat):List ByteArray:=match g.funcs[fn -1]? with
 |some f=>f.params
 |none=> []
def Oq(a b:Ae):Bool:=a.1==b.1&&Go.Proofs.YtkfillfkbhbbjaaGreatDoor.same a.2 b.2
def Cf(k:Ae):List (Ae×Ae)→Option Ae
 | []=>none
 |x::l=>if Oq k x.1 then some x.2 else Cf k l
def Dw(m:List (Ae×Ae)):Nat→Ae→Option Ae
 |0,_=>none
 | f+1,t=>match Cf t m with
   |none=>some t
   |some u=>Dw m f u
def Dl(st:NS)(t:Ae):Option Ae:=Dw st.same (st.same.length+1) t
def Vb(t:Ae):List Ae→Bool
 | []=>false
 |x::l=>if Oq t x then true else Vb t l
def Df(st:NS)(t:Ae):NS:={st with seen:=if Vb t st.seen then st.seen else st.seen++ [t]}
def Al(st:NS)(re im:Nat)(e:Int):NS:=if st.e=0 then {st with re:=re,im:=im,e:=e} else st
def Iv(g:Ah)(st:NS)(name:ByteArray):Ae×NS:=
 if st.fn>0∧Dn name (Bk g st.fn)=true then ((st.fn,name),st) else ((0,name),Df st (0,name))
def Bi(g:Ah)(st:NS)(n:Af):NS:=if flook g n.name>0 then Al st n.re n.im 28 else st
def Hp(st:NS)(u:Kf):Option NS:=if st.uses.length<400000 then some {st with uses:=st.uses++ [u]} else none
def Gs:Ae:=(0,bs [])
def Jv(f:Az)(s:ByteArray):List ByteArray→NS→NS
 | [],st=>st
 |t::l,st=>Jv f s l (if same t s then Al st f.re f.im 29 else st)
def Dx(g:Ah)(i:Nat)(f:Az):List ByteArray→List ByteArray→NS→NS
 |_,[],st=>st
 |pre,s::l,st=>
  let st:=Jv f s pre st
  let st:=if Am s||decide (flook g s>0) then Al st f.re f.im 28 else st
  Dx g i f (pre++ [s]) l (Df st (i+1,s))
def Er(g:Ah):Nat→List Az→NS→NS
 |_,[],st=>st
 |i,f::l,st=>
  let st:=if flook g f.name≠i+1 then Al st f.re f.im 29 else if Am f.name then Al st f.re f.im 28 else st
  Er g (i+1) l (Dx g i f [] f.params st)
def Bz(name:ByteArray):Nat×Nat:=
 if Dn name [bs [108,101,110,103,116,104],bs [115,114,97,110,100]] then (0,1)
 else if same name (bs [114,97,110,100]) then (0,0)
 else if Dn name [bs [105,110,100,101,120],bs [109,97,116,99,104],bs [97,116,97,110,50],bs [101,120,112,105,114,101]] then (2,2)
 else if Dn name [bs [115,117,98,115,116,114],bs [115,112,108,105,116],bs [115,117,98],bs [103,115,117,98]] then (2,3)
 else if same name (bs [115,112,114,105,110,116,102]) then (1,1073741824)
 else (1,1)
abbrev Cu:=NS→Af→Option NS
def Lj(rec:Cu):List Af→NS→Option NS
 | [],st=>some st
 | k::l,st=>do
   let st ←rec st k
   Lj rec l st
def Gh(g:Ah)(rec:Cu)(fn:Nat):List ByteArray→List Af→NS→Option NS
 |_,[],st=>some st
 | [],_::_,_=>none
 | p::ps,k::l,st=>do
   if k.kind≠4 then do
    let st ←Hp st ⟨k.re,k.im,Gs,false,(fn,p),true,false⟩
    let st ←rec st k
    Gh g rec fn ps l st
   else do
    let o:=Iv g (Bi g st k) k.name
    let a ←Dl o.2 o.1
    let b ←Dl o.2 (fn,p)
    Gh g rec fn ps l (if Oq a b then o.2 else {o.2 with same:=o.2.same++ [(a,b)]})
def Qm(rec:Cu):List Af→NS→Option NS
 | [],st=>some st
 | n::l,st=>do
   let st ←rec st n
   Qm rec l st
def BN(rec:Cu):List Cy→NS→Option NS
 | [],st=>some st
 | r::l,st=>do
   let st ←Qm rec r.pats {st with rule:=r.kind,loops:=0}
   let st ←rec st r.body
   BN rec l st
def BO(rec:Cu):Nat→List Az→NS→Option NS
 |_,[],st=>some st
 | i,f::l,st=>do
   let st ←rec {st with fn:=i+1,loops:=0} f.body
   BO rec (i+1) l st
/-! ### kinds -/
abbrev Cs:=List (Ae×Nat)
def kof(t:Ae):Cs→Nat
 | []=>0
 |x::l=>if Oq t x.1 then x.2 else kof t l
def Nl(st:NS):List Ae→Cs→Option Cs
 | [],k=>some k
 | t::l,k=>if t.1=0∧Am t.2=true then do
    let r ←Dl st t
    Nl st l ((r,1)::k)
   else Nl st l k
def Nj(st:NS):List Kf→Cs→Option Cs
 | [],k=>some k
 |u::l,k=>if u.kid||u.bad then Nj st l k else do
    let r ←Dl st u.of
    Nj st l (if kof r k>0 then k else (r,if u.array then 2 else 1)::k)
def Mb(st:NS):Option Cs:=do
 let k ←Nl st st.seen []
 Nj st st.uses k
def Gt(k:Cs):List Kf→NS→Option NS
 | [],st=>some st
 | u ::l,st=>do
   let b ←(if u.bad then some true
    else if u.kid then do
     let r ←Dl st u.param
     some (kof r k==2)
    else do
     let r ←Dl st u.of
     some ((kof r k==2) !=u.array))
   Gt k l (if b then Al st u.re u.im 30 else st)
/-! ### what is told -/
def Pp:List UInt8→List UInt8→Bool
 |_,[]=>false
 | [],_::_=>true
 |a::x,b::y=>if a<b then true else if b<a then false else Pp x y
def Ep(s:ByteArray):List ByteArray→List ByteArray
 | []=> [s]
 |x::l=>if Pp x.data.toList s.data.toList then x::Ep s l else s::x::l
def Cr:List ByteArray→List ByteArray
 | []=> []
 |x::l=>Ep x (Cr l)
structure Xq where
 scalars:List ByteArray
 arrays:List ByteArray
 params:List (List Bool)
def Lx(st:NS)(k:Cs)(arr:Bool):List Ae→Option (List ByteArray)
 | []=>some []
 |t::l=>if decide (t.1>0)||Am t.2 then Lx st k arr l else do
    let r ←Dl st t
    let rest ←Lx st k arr l
    some (if (kof r k==2)==arr then t.2::rest else rest)
def Vw(st:NS)(k:Cs)(i:Nat):List ByteArray→Option (List Bool)
 | []=>some []
 | s::l=>do
   let r ←Dl st (i+1,s)
   let rest ←Vw st k i l
   some ((kof r k==2)::rest)
def Lw(st:NS)(k:Cs):Nat→List Az→Option (List (List Bool))
 |_,[]=>some []
 | i,f::l=>do
   let x ←Vw st k i f.params
   let rest ←Lw st k (i+1) l
   some (x::rest)
structure Ox where
 info:Xq
 re:Nat
 im:Nat
 e:Int
def Pl(g:Ah):Bool:=decide (g.funcs.length≤400000)&&decide (g.rules.length≤1000000)&&g.funcs.all (fun f=>decide (f.params.length≤400000))&&g.rules.all (fun r=>decide (r.pats.length≤1000000))
def IR:NS:=⟨0,0,0,[],[],[],0,0,0⟩
def DL(st:NS)(k:Cs)(g:Ah):Option Xq:=do
 let sc ←Lx st k false st.seen
 let ar ←Lx st k true st.seen
 let ps ←Lw st k 0 g.funcs
 some ⟨Cr sc,Cr ar,ps⟩
def Wd(st:NS)(g:Ah):Option Ox:=if st.e≠0 then some ⟨⟨[],[],[]⟩,st.re,st.im,st.e⟩ else do
 let k ←Mb st
 let x ←DL st k g
 some ⟨x,0,0,0⟩
def AQ(st:NS):Option NS:=if st.e=0 then do
  let k ←Mb st
  Gt k st.uses st
 else some st
end Go.Proofs.YtkfillfkbhbbjaaGreatDoor
namespace Go.Proofs.YtkfillfkbhbbjaaGreatDoor
def Qv(lp:Bool)(i:Nat)(st:NS)(k:Af):NS:=if lp=true∧i%2=0∧(k.kind=36∨k.kind=37) then Al st k.re k.im 32 else st
def Ga(rec:Cu)(lp:Bool):Nat→List Af→NS→Option NS
 |_,[],st=>some st
 | i,k::l,st=>do
   let st ←rec (Qv lp i st k) k
   Ga rec lp (i+1) l st
def Uj(g:Ah)(st:NS)(n:Af):Option NS:=
 if n.kind=4 then Hp (Iv g (Bi g st n) n.name).2 ⟨n.re,n.im,(Iv g (Bi g st n) n.name).1,false,Gs,false,false⟩
 else if n.kind=5∨n.kind=11∨n.kind=41∨n.kind=35 then Hp (Iv g (Bi g st n) n.name).2 ⟨n.re,n.im,(Iv g (Bi g st n) n.name).1,true,Gs,false,false⟩
 else if n.kind=38 then some (if st.fn>0∨(st.rule≠5∧st.rule≠6∧st.rule≠7) then Al st n.re n.im 32 else st)
 else if n.kind=40 then some (if st.fn=0 then Al st n.re n.im 32 else st)
 else if n.kind=36∨n.kind=37 then some (if st.loops=0 then Al st n.re n.im 32 else st)
 else some st
def Wc:ByteArray:=bs [115,112,108,105,116]
def Qq:ByteArray:=bs [101,120,112,105,114,101]
def CZ:ByteArray:=bs [115,117,98]
def To:ByteArray:=bs [103,115,117,98]
def Hf:ByteArray:=bs [108,101,110,103,116,104]
def Gi(name:ByteArray):Int:=if name=Wc then 1 else if name=Qq then 0 else -1
def GR(g:Ah)(rec:Cu)(st:NS)(k:Af):Option NS:=
 if k.kind=4 then Hp (Iv g (Bi g st k) k.name).2 ⟨k.re,k.im,(Iv g (Bi g st k) k.name).1,true,Gs,false,false⟩
 else do
  let st ←Hp st ⟨k.re,k.im,Gs,false,Gs,false,true⟩
  rec st k
def Nw(g:Ah)(rec:Cu)(arr:Int):Nat→List Af→NS→Option NS
 |_,[],st=>some st
 | i,k::l,st=>do
   let st ←(if (i:Int)=arr then GR g rec st k else rec st k)
   Nw g rec arr (i+1) l st
def Ih(name:ByteArray)(st:NS):List Af→NS
 | [_,_,k]=>if (name=CZ∨name=To)∧Hn k=false then Al st k.re k.im 31 else st
 |_=>st
def DD(g:Ah)(name:ByteArray)(st:NS):List Af→Option NS
 | [k]=>if name=Hf∧k.kind=4 then some (Iv g (Bi g st k) k.name).2 else none
 |_=>none
def Ml(g:Ah)(rec:Cu)(st:NS)(name:ByteArray)(kids:List Af)(re im:Nat):Option NS:=
 if kids.length<(Bz name).1∨(Bz name).2<kids.length then some (Al st re im 31)
 else match DD g name st kids with
  |some st'=>some st'
  |none=>Nw g rec (Gi name) 0 kids (Ih name st kids)
def Lh(k:Int):Bool:=k==32||k==33||k==34||k==35
def Yj(g:Ah)(rec:Cu)(st:NS)(n:Af):Option NS:=
 if 1000000<n.kids.length then none
 else if n.kind=19 then
  if flook g n.name=0 then some (Al st n.re n.im 28)
  else if (Bk g (flook g n.name)).length<n.kids.length then some (Al st n.re n.im 31)
  else Gh g rec (flook g n.name) (Bk g (flook g n.name)) n.kids st
 else if n.kind=20 then Ml g rec st n.name n.kids n.re n.im
 else do
  let st ←Uj g st n
  if Lh n.kind=true then
   if st.loops<0∨900000<st.loops then none else do
    let st ←Ga rec (n.kind==34) 0 n.kids {st with loops:=st.loops+1}
    if st.loops<0∨900001<st.loops then none else some {st with loops:=st.loops -1}
  else Ga rec false 0 n.kids st
theorem Km(g:Ah)(st:NS)(kd:Int)(tx:ByteArray)(fm:Nat)(kids:List Af)(re im:Nat):Uj g st (.mk kd tx fm kids re im)=
 if kd=4 then Hp (Iv g (Bi g st (.mk kd tx fm kids re im)) tx).2 ⟨re,im,(Iv g (Bi g st (.mk kd tx fm kids re im)) tx).1,false,Gs,false,false⟩
 else if kd=5∨kd=11∨kd=41∨kd=35 then Hp (Iv g (Bi g st (.mk kd tx fm kids re im)) tx).2 ⟨re,im,(Iv g (Bi g st (.mk kd tx fm kids re im)) tx).1,true,Gs,false,false⟩
 else if kd=38 then some (if st.fn>0∨(st.rule≠5∧st.rule≠6∧st.rule≠7) then Al st re im 32 else st)
 else if kd=40 then some (if st.fn=0 then Al st re im 32 else st)
 else if kd=36∨kd=37 then some (if st.loops=0 then Al st re im 32 else st)
 else some st:=rfl
theorem Qg(g:Ah)(rec:Cu)(st:NS)(kd:Int)(tx:ByteArray)(fm:Nat)(kids:List Af)(re im:Nat):Yj g rec st (.mk kd tx fm kids re im)=
 if 1000000<kids.length then none
 else if kd=19 then
  if flook g tx=0 then some (Al st re im 28)
  else if (Bk g (flook g tx)).length<kids.length then some (Al st re im 31)
  else Gh g rec (flook g tx) (Bk g (flook g tx)) kids st
 else if kd=20 then Ml g rec st tx kids re im
 else (Uj g st (.mk kd tx fm kids re im)).bind fun st=>
  if Lh kd=true then
   if st.loops<0∨900000<st.loops then none else (Ga rec (kd==34) 0 kids {st with loops:=st.loops+1}).bind fun st=>
    if st.loops<0∨900001<st.loops then none else some {st with loops:=st.loops -1}
  else Ga rec false 0 kids st:=rfl
def Jq(g:Ah):Nat→Cu
 |0=>fun _ _=>none
 |f+1=>Yj g (Jq g f)
def FC(fu:Nat)(g:Ah)(st:NS):Option NS:=if st.e=0 then do
  let st ←BN (Jq g fu) g.rules st
  BO (Jq g fu) 0 g.funcs st
 else some st
def Kv(fu:Nat)(g:Ah):Option Ox:=if Pl g=false then none else do
 let st ←FC fu g (Er g 0 g.funcs IR)
 if 400000<st.uses.length∨400000<st.seen.length then none else do
  let st ←AQ st
  Wd st g
end Go.Proofs.YtkfillfkbhbbjaaGreatDoor
namespace Go.Proofs.YtkfillfkbhbbjaaGreatDoor
inductive Ev where
 |see (t:Ae) (re im:Nat)
 |use (t:Ae) (arr:Bool) (re im:Nat)
 |kid (p:Ae) (re im:Nat)
 |bad (re im:Nat)
 |link (a p:Ae) (re im:Nat)
 |reg (t:Ae)
def Du(g:Ah)(fn:Nat)(name:ByteArray):Ae:=if fn>0∧Dn name (Bk g fn)=true then (fn,name) else (0,name)
def Bp(st:NS)(t:Ae):NS:=if t.1=0 then Df st t else st
def BU(st:NS):Ev→Option NS
 | .see t _ _=>some (Bp st t)
 | .use t arr re im=>Hp (Bp st t) ⟨re,im,t,arr,Gs,false,false⟩
 | .kid p re im=>Hp st ⟨re,im,Gs,false,p,true,false⟩
 | .bad re im=>Hp st ⟨re,im,Gs,false,Gs,false,true⟩
 | .link a p _ _=>(Dl (Bp st a) a).bind fun ra=>(Dl (Bp st a) p).bind fun rb=>some (if Oq ra rb then Bp st a else {Bp st a with same:=(Bp st a).same++ [(ra,rb)]})
 | .reg _=>some st
def Xz(nm:ByteArray):List Af→Bool
 | [k]=>decide (nm=Hf)&&k.kind==4
 |_=>false
def LI(g:Ah)(fn:Nat):List Af→List Ev
 | [k]=> [.see (Du g fn k.name) k.re k.im]
 |_=> []
def AM(g:Ah)(fn:Nat)(k:Int)(nm:ByteArray)(re im:Nat):List Ev:=
 if k=4 then [.use (Du g fn nm) false re im] else if k=5∨k=11∨k=41∨k=35 then [.use (Du g fn nm) true re im] else []
mutual
def Xd(g:Ah)(fn:Nat):Af→List Ev
 | .mk k nm _ kids re im=>
  if k=19 then Zl g fn (flook g nm) (Bk g (flook g nm)) kids
  else if k=20 then if Xz nm kids=true then LI g fn kids else Xt g fn (Gi nm) 0 kids
  else AM g fn k nm re im++Nq g fn kids
def Nq(g:Ah)(fn:Nat):List Af→List Ev
 | []=> []
 |k::l=>Xd g fn k++Nq g fn l
def Zl(g:Ah)(fn:Nat)(f:Nat):List ByteArray→List Af→List Ev
 |_,[]=> []
 | [],_::_=> []
 |p::ps,k::l=>(if k.kind=4 then [.link (Du g fn k.name) (f,p) k.re k.im] else .kid (f,p) k.re k.im::Xd g fn k)++Zl g fn f ps l
def Xt(g:Ah)(fn:Nat)(arr:Int):Nat→List Af→List Ev
 |_,[]=> []
 |i,k::l=>(if (i:Int)=arr then (if k.kind=4 then [.use (Du g fn k.name) true k.re k.im] else .bad k.re k.im::Xd g fn k) else Xd g fn k)++Xt g fn arr (i+1) l
end
/-! ### faults -/
abbrev Ic:=Int×Nat×Nat
def Gn(st:NS):Option Ic:=if st.e=0 then none else some (st.e,st.re,st.im)
def Me(k:Int):Bool:=k==4||k==5||k==11||k==41||k==35
def Qe(nm:ByteArray):List Af→Option Ic
 | [_,_,k]=>if (nm=CZ∨nm=To)∧Hn k=false then some (31,k.re,k.im) else none
 |_=>none
def Iq(g:Ah)(fn:Nat)(kd lo:Int)(k:Int)(nm:ByteArray)(kids:List Af)(re im:Nat):Option Ic:=
 if Me k=true then (if flook g nm>0 then some (28,re,im) else none)
 else if k=19 then (if flook g nm=0 then some (28,re,im) else if (Bk g (flook g nm)).length<kids.length then some (31,re,im) else none)
 else if k=20 then
  if kids.length<(Bz nm).1∨(Bz nm).2<kids.length then some (31,re,im)
  else Qe nm kids
 else if k=38 then (if fn>0∨(kd≠5∧kd≠6∧kd≠7) then some (32,re,im) else none)
 else if k=40 then (if fn=0 then some (32,re,im) else none)
 else if k=36∨k=37 then (if lo=0 then some (32,re,im) else none)
 else none
def Pu(lp:Bool)(i:Nat)(k:Af):Option Ic:=if lp=true∧i%2=0∧(k.kind=36∨k.kind=37) then some (32,k.re,k.im) else none
mutual
def Dg(g:Ah)(fn:Nat)(kd:Int)(lo:Int):Af→Option Ic
 | .mk k nm _ kids re im=>(Iq g fn kd lo k nm kids re im).or (Cg g fn kd (if Lh k then lo+1 else lo) (k==34) 0 kids)
def Cg(g:Ah)(fn:Nat)(kd:Int)(lo:Int)(lp:Bool):Nat→List Af→Option Ic
 |_,[]=>none
 |i,k::l=>((Pu lp i k).or (Dg g fn kd lo k)).or (Cg g fn kd lo lp (i+1) l)
end
mutual
def Yg:Af→Prop
 | .mk k _ _ kids _ _=>(k=4→kids= [])∧Oy kids
def Oy:List Af→Prop
 | []=>True
 |k::l=>Yg k∧Oy l
end
end Go.Proofs.YtkfillfkbhbbjaaGreatDoor
namespace Go.Proofs.YtkfillfkbhbbjaaGreatDoor
theorem Da{α:Type}(a b c:Option α):(a.or b).or c=a.or (b.or c):=by cases a<;>rfl
theorem Fh{α:Type}(a:Option α):a.or none=a:=by cases a<;>rfl
def Mn(st st':NS):Prop:=st'.fn=st.fn∧st'.rule=st.rule∧st'.loops=st.loops
theorem Mn.refl(st:NS):Mn st st:=⟨rfl,rfl,rfl⟩
theorem Mn.trans{a b c:NS}(h:Mn a b)(k:Mn b c):Mn a c:=⟨k.1.trans h.1,k.2.1.trans h.2.1,k.2.2.trans h.2.2⟩
def Dj(st st':NS)(x:Option Ic):Prop:=Mn st st'∧Gn st'=(Gn st).or x
theorem Dj.nil{st st':NS}(h:Mn st st')(k:Gn st'=Gn st):Dj st st' none:=⟨h,by rw [k,Fh]⟩
theorem Dj.refl(st:NS):Dj st st none:=Dj.nil (Mn.refl _) rfl
theorem Dj.trans{a b c:NS}{x y:Option Ic}(h:Dj a b x)(k:Dj b c y):Dj a c (x.or y):=⟨h.1.trans k.1,by rw [k.2,h.2,Da]⟩
theorem Dj.trans0{a b c:NS}{x:Option Ic}(h:Dj a b x)(k:Dj b c none):Dj a c x:=by have:=h.trans k;rwa [Fh] at this
theorem Xk(st:NS)(re im:Nat){e:Int}(he:e≠0):Dj st (Al st re im e) (some (e,re,im)):=by
 unfold Al
 by_cases h:st.e=0
 ·rw [if_pos h];exact ⟨⟨rfl,rfl,rfl⟩,by simp [Gn,h,he]⟩
 rw [if_neg h];exact ⟨Mn.refl _,by simp [Gn,h]⟩
theorem EE(st:NS)(t:Ae):Dj st (Df st t) none:=Dj.nil ⟨rfl,rfl,rfl⟩ rfl
theorem Uw(g:Ah)(st:NS)(name:ByteArray):Dj st (Iv g st name).2 none:=by
 unfold Iv;split
 ·exact NX
 exact EE _ _
theorem Lp{st st':NS}{u:Kf}(h:Hp st u=some st'):Dj st st' none:=by
 unfold Hp at h;split at h
 ·cases h;exact Dj.nil ⟨rfl,rfl,rfl⟩ rfl
 cases h
theorem Mk(g:Ah)(st:NS)(n:Af):Dj st (Bi g st n) (if flook g n.name>0 then some (28,n.re,n.im) else none):=by
 unfold Bi;split
 ·exact RO
 exact NX
theorem QR(lp:Bool)(i:Nat)(st:NS)(k:Af):Dj st (Qv lp i st k) (Pu lp i k):=by
 unfold Qv Pu;split
 ·exact RO
 exact NX
theorem Zv{st st':NS}{m:List (Ae×Ae)}(h:{st with same:=m}=st'):Dj st st' none:=by subst h;exact Dj.nil ⟨rfl,rfl,rfl⟩ rfl
def Tg(g:Ah)(rec:Cu):Prop:=∀n st st',Yg n→rec st n=some st'→Dj st st' (Dg g st.fn st.rule st.loops n)
theorem Ll{g:Ah}{fn:Nat}{kd lo:Int}{n:Af}(hw:Yg n)(h:n.kind=4):Dg g fn kd lo n=if flook g n.name>0 then some (28,n.re,n.im) else none:=by
 obtain ⟨k,nm,x,kids,re,im⟩:=n;simp only [Af.kind] at h;subst h;rw [Yg] at hw;obtain ⟨hk,-⟩:=hw;rw [hk rfl,Dg,Cg,Fh]
 rfl
theorem Mh(i:Nat)(k:Af):Pu false i k=none:=by simp [Pu]
theorem Dj.to{st st':NS}{x y:Option Ic}(h:Dj st st' x)(e:x=y):Dj st st' y:=e▸h
theorem Li{g:Ah}{rec:Cu}(hr:Tg g rec)(lp:Bool):∀(l:List Af) (i:Nat) (st st':NS),Oy l→Ga rec lp i l st=some st'→Dj st st' (Cg g st.fn st.rule st.loops lp i l)
 | [],i,st,st',_,h=>by
   rw [Ga] at h;cases h;rw [Cg];exact Dj.refl _
 | k::l,i,st,st',hw,h=>by
   rw [Oy] at hw;simp only [Ga,Option.bind_eq_bind,Option.bind_eq_some_iff] at h;obtain ⟨s1,h1,h2⟩:=h;have c0:=QR lp i st k;have c1:=hr k _ _ hw.1 h1;rw [c0.1.1,c0.1.2.1,c0.1.2.2] at c1;have c01:=c0.trans c1;have c2:=Li hr lp l _ _ _ hw.2 h2;rw [c01.1.1,c01.1.2.1,c01.1.2.2] at c2;rw [Cg];exact c01.trans c2
theorem Tc{g:Ah}{rec:Cu}(hr:Tg g rec)(f:Nat):∀(l:List Af) (ps:List ByteArray) (i:Nat) (st st':NS),Oy l→Gh g rec f ps l st=some st'→Dj st st' (Cg g st.fn st.rule st.loops false i l)
 | [],ps,i,st,st',_,h=>by
   rw [Gh] at h;cases h;rw [Cg];exact Dj.refl _
 |k::l,[],i,st,st',hw,h=>by rw [Gh] at h;cases h
 | k ::l,p::ps,i,st,st',hw,h=>by
   rw [Oy] at hw;rw [Gh] at h;rw [Cg,Mh]
   by_cases h4:k.kind=4
   ·rw [if_neg (by simp [h4])] at h;simp only [Option.bind_eq_bind,Option.bind_eq_some_iff] at h;obtain ⟨ra,-,rb,-,h⟩:=h;have c1:=(Mk g st k).trans0 (Uw g _ k.name)
    have c2:Dj (Iv g (Bi g st k) k.name).2 (if Oq ra rb then (Iv g (Bi g st k) k.name).2 else {(Iv g (Bi g st k) k.name).2 with same:=(Iv g (Bi g st k) k.name).2.same++ [(ra,rb)]}) none:=by
     split
     ·exact NX
     exact Zv rfl
    have c3:=c1.trans0 c2;have c4:=Tc hr f l ps (i+1) _ _ hw.2 h;rw [c3.1.1,c3.1.2.1,c3.1.2.2] at c4;rw [Ll hw.1 h4];exact c3.trans c4
   rw [if_pos h4] at h;simp only [Option.bind_eq_bind,Option.bind_eq_some_iff] at h;obtain ⟨s1,h1,s2,h2,h⟩:=h;have c1:=Lp h1;have c2:=hr k _ _ hw.1 h2;rw [c1.1.1,c1.1.2.1,c1.1.2.2] at c2;have c3:=c1.trans c2;have c4:=Tc hr f l ps (i+1) _ _ hw.2 h;rw [c3.1.1,c3.1.2.1,c3.1.2.2] at c4;exact c3.trans c4
theorem EO{g:Ah}{rec:Cu}(hr:Tg g rec){st st':NS}{k:Af}(hw:Yg k)(h:GR g rec st k=some st'):Dj st st' (Dg g st.fn st.rule st.loops k):=by
 unfold GR at h
 split at h
 ·rename_i h4;rw [Ll hw h4];exact ((Mk g st k).trans0 (Uw g _ k.name)).trans0 (Lp h)
 simp only [Option.bind_eq_bind,Option.bind_eq_some_iff] at h;obtain ⟨s1,h1,h2⟩:=h;have c1:=Lp h1;have c2:=hr k _ _ hw h2;rw [c1.1.1,c1.1.2.1,c1.1.2.2] at c2;exact c1.trans c2
theorem EK{g:Ah}{rec:Cu}(hr:Tg g rec)(arr:Int):∀(l:List Af) (i:Nat) (st st':NS),Oy l→Nw g rec arr i l st=some st'→Dj st st' (Cg g st.fn st.rule st.loops false i l)
 | [],i,st,st',_,h=>by
   rw [Nw] at h;cases h;rw [Cg];exact Dj.refl _
 | k::l,i,st,st',hw,h=>by
   rw [Oy] at hw;simp only [Nw,Option.bind_eq_bind,Option.bind_eq_some_iff] at h;obtain ⟨s1,h1,h2⟩:=h
   have c1:Dj st s1 (Dg g st.fn st.rule st.loops k):=by
    split at h1
    ·exact EO hr hw.1 h1
    exact hr k _ _ hw.1 h1
   have c2:=EK hr arr l (i+1) _ _ hw.2 h2;rw [c1.1.1,c1.1.2.1,c1.1.2.2] at c2;rw [Cg,Mh];exact c1.trans c2
theorem QQ(nm:ByteArray)(st:NS)(kids:List Af):Dj st (Ih nm st kids) (Qe nm kids):=by
 match kids with
 | []=>exact Dj.refl _
 | [_]=>exact Dj.refl _
 | [_,_]=>exact Dj.refl _
 | [a,b,k]=>
  show Dj st (if (nm=CZ∨nm=To)∧Hn k=false then Al st k.re k.im 31 else st) (if (nm=CZ∨nm=To)∧Hn k=false then some (31,k.re,k.im) else none)
  split
  ·exact RO
  exact NX
 |_::_::_::_::_=>exact Dj.refl _
theorem GO{g:Ah}{rec:Cu}(hr:Tg g rec){st st':NS}{nm:ByteArray}{kids:List Af}{re im:Nat}(hw:Oy kids)(h:Ml g rec st nm kids re im=some st'):Dj st st' ((Iq g st.fn st.rule st.loops 20 nm kids re im).or (Cg g st.fn st.rule st.loops false 0 kids)):=by
 unfold Ml at h
 have hb:Iq g st.fn st.rule st.loops 20 nm kids re im=if kids.length<(Bz nm).1∨(Bz nm).2<kids.length then (some (31,re,im):Option Ic)
  else Qe nm kids:=rfl
 rw [hb]
 split at h
 ·rename_i hc;rw [if_pos hc]
  cases h
  exact RO
 rename_i hc;rw [if_neg hc]
 split at h
 ·rename_i s1 hl
  cases h
  unfold DD at hl
  split at hl
  ·rename_i k
   split at hl
   ·rename_i h4
    cases hl
    rw [Oy,Oy] at hw;show Dj st _ ((none:Option Ic).or _);rw [Cg,Cg,Mh,Fh,Ll hw.1 h4.2];exact (Mk g st k).trans0 (Uw g _ k.name)
   cases hl
  cases hl
 have c1:=QQ nm st kids;have c2:=EK hr (Gi nm) kids 0 _ _ hw h;rw [c1.1.1,c1.1.2.1,c1.1.2.2] at c2;exact c1.trans c2
theorem Qs{k:Int}(h4:k≠4)(h:¬(k=5∨k=11∨k=41∨k=35)):Me k=false:=by
 simp only [not_or] at h;simp [Me,h4,h]
theorem CO{g:Ah}{st st':NS}{k:Int}{nm:ByteArray}{x:Nat}{kids:List Af}{re im:Nat}(h19:k≠19)(h20:k≠20)(h:Uj g st (.mk k nm x kids re im)=some st'):Dj st st' (Iq g st.fn st.rule st.loops k nm kids re im):=by
 rw [Km] at h;unfold Iq
 split at h
 ·rename_i h4;rw [if_pos (by simp [Me,h4])];exact jnb
 rename_i h4
 split at h
 ·rename_i h5;rw [if_pos zdb];exact jnb
 rename_i h5;rw [if_neg (by rw [Qs h4 h5];simp),if_neg h19,if_neg h20]
 split at h
 ·rename_i h38;rw [if_pos h38]
  cases h
  split
  ·exact RO
  exact NX
 rename_i h38;rw [if_neg h38]
 split at h
 ·rename_i h40;rw [if_pos h40]
  cases h
  split
  ·exact RO
  exact NX
 rename_i h40;rw [if_neg h40]
 split at h
 ·rename_i h36;rw [if_pos h36]
  cases h
  split
  ·exact RO
  exact NX
 rename_i h36;rw [if_neg h36]
 cases h
 exact NX
theorem JY{g:Ah}{rec:Cu}(hr:Tg g rec):Tg g (Yj g rec):=by
 intro n st st' hw h;obtain ⟨k,nm,x,kids,re,im⟩:=n;rw [Yg] at hw;rw [Dg];rw [Qg] at h
 split at h
 ·cases h
 split at h
 ·rename_i h19;subst h19;have hb:Iq g st.fn st.rule st.loops 19 nm kids re im=if flook g nm=0 then (some (28,re,im):Option Ic) else if (Bk g (flook g nm)).length<kids.length then some (31,re,im) else none:=rfl
  rw [hb]
  split at h
  ·rename_i h0
   cases h
   rw [if_pos h0];exact RO
  rename_i h0;rw [if_neg h0]
  split at h
  ·rename_i h1
   cases h
   rw [if_pos h1];exact RO
  rename_i h1;rw [if_neg h1];exact Tc hr _ kids _ 0 _ _ hw.2 h
 rename_i h19
 split at h
 ·rename_i h20;subst h20;exact GO hr hw.2 h
 rename_i h20;simp only [Option.bind_eq_some_iff] at h;obtain ⟨s1,h1,h⟩:=h;have c1:=CO h19 h20 h1
 split at h
 ·rename_i hl;rw [if_pos hl]
  split at h
  ·cases h
  simp only [Option.bind_eq_some_iff] at h;obtain ⟨s2,h2,h⟩:=h
  split at h
  ·cases h
  cases h
  have c2:=Li hr _ kids 0 _ _ hw.2 h2;obtain ⟨⟨d1,d2,d3⟩,d4⟩:=c2;simp only at d1 d2 d3 d4;rw [c1.1.1,c1.1.2.1,c1.1.2.2] at d4;refine ⟨⟨d1.trans c1.1.1,d2.trans c1.1.2.1, ?_⟩, ?_⟩
  ·simp only;rw [d3,c1.1.2.2];omega
  have e2:=d4;have e1:=c1.2;simp only [Gn] at e2 e1⊢;rw [e2,e1,Da]
 rename_i hl;rw [if_neg hl]
 have h34:(k==34)=false:=by
  simp only [Lh,Bool.or_eq_true,beq_iff_eq,not_or] at hl;simp [hl]
 rw [h34];have c2:=Li hr _ kids 0 _ _ hw.2 h;rw [c1.1.1,c1.1.2.1,c1.1.2.2] at c2;exact c1.trans c2
theorem Lg(g:Ah):∀fu,Tg g (Jq g fu)
 |0=>fun _ _ _ _ h=>by cases h
 |fu+1=>JY (Lg g fu)
end Go.Proofs.YtkfillfkbhbbjaaGreatDoor
