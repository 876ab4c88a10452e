/- Kit. -/
import Derived.Test.YtkfillfkbhbbjaaGreatDoorRows
import Derived.WalkKit
import Derived.WalkSpells
import Derived.WalkLawsBesides
import Derived.Maps.OwnOps
import Derived.Lib.Hide
import Derived.Deep.Draws
import Derived.Deep.Upon
set_option maxRecDepth 100000
set_option maxHeartbeats 4000000
set_option linter.unusedSimpArgs false
set_option linter.unusedVariables false
namespace Go.Proofs.YtkfillfkbhbbjaaGreatDoor
theorem Ai{a b:Nat}(h:a<b):a≠b∧b≠a:=⟨Nat.ne_of_lt h,Nat.ne_of_gt h⟩
structure Hd (p:Prop):Prop where o:p
theorem zh{p:Prop}(h:p):Hd p:=⟨h⟩
open Go.RowKit Go.MapKept
/-! ### a block that is no row of cells, put in another's place -/
def mset(w:World)(b:Nat)(o:Obj):World:={w with heap:=w.heap.setIfInBounds b o}
theorem AZ{w:World}{b:Nat}{o:Obj}(h:b<w.heap.size):(mset w b o).heap[b]? =some o:=by
 simp [mset,h]
theorem Jf{w:World}{b:Nat}{o:Obj}{k:Nat}(h:k≠b):(mset w b o).heap[k]? =w.heap[k]? :=by
 simp [mset,Ne.symm h]
@[go_sem] theorem size_mset (w:World) (b:Nat) (o:Obj):(mset w b o).heap.size=w.heap.size:=by simp [mset]
@[go_sem] theorem cell_mset_ne {w:World} {b:Nat} {o:Obj} {k:Nat} {i:Nat} (h:k≠b):(mset w b o).cell? ⟨k,i,none⟩=w.cell? ⟨k,i,none⟩:=by
 simp only [World.cell?,Jf h]
@[go_sem] theorem frozen_mset_ne {w:World} {b:Nat} {o:Obj} {k:Nat} {i:Nat} (h:k≠b):(mset w b o).frozen? ⟨k,i,none⟩=w.frozen? ⟨k,i,none⟩:=by
 simp only [World.frozen?,Jf h]
/-! ### what a block holds, behind a step -/
theorem Ad{w:World}{b:Nat}{x:Obj}(h:w.heap[b]? =some x):b<w.heap.size:=(Array.getElem?_eq_some_iff.1 h).1
theorem Ed{w:World}{o:Obj}{b:Nat}{x:Obj}(h:w.heap[b]? =some x):(w.alloc o).heap[b]? =some x:=by
 rw [(MapKept.heap_alloc w o).2 b (Ad h)];exact h
theorem Ca(w:World)(o:Obj):(w.alloc o).heap[w.heap.size]? =some o:=(MapKept.heap_alloc w o).1
theorem Ds{w:World}{a:Addr}{u:Value}{b:Nat}{x:Obj}(hb:b≠a.block)(h:w.heap[b]? =some x):(w.setCell a u).heap[b]? =some x:=by
 rw [Below.heap_setCell _ _ _ _ hb];exact h
theorem Di{w:World}{b i:Nat}{u:Value}{c:Array Value}{T:TypeId}{f:Nat×Nat}(h:w.heap[b]? =some (.cells c T f)):(w.setCell ⟨b,i,none⟩ u).heap[b]? =some (.cells (c.setIfInBounds i u) T f):=by
 have hlt:=Ad h;simp [World.setCell,Array.getElem?_modify,h]
/-! ### what a step leaves as it was: every old block but those of a list -/
structure Ac (fp:List Nat) (w w':World):Prop where
 os:w'.os=w.os
 tape:w'.tape=w.tape
 output:w'.output=w.output
 size:w.heap.size≤w'.heap.size
 block:∀k,k<w.heap.size→k∉fp→w'.heap[k]? =w.heap[k]?
theorem Ac.refl(fp:List Nat)(w:World):Ac fp w w:=⟨rfl,rfl,rfl,Nat.le_refl _,fun _ _ _=>rfl⟩
theorem Ac.trans{fp fp':List Nat}{a b c:World}(h:Ac fp a b)(k:Ac fp' b c)(hs:∀x∈fp',x∈fp∨a.heap.size≤x):Ac fp a c:=
 ⟨k.os.trans h.os,k.tape.trans h.tape,k.output.trans h.output,Nat.le_trans h.size k.size,fun i hi hn=>
  (k.block i (Nat.lt_of_lt_of_le hi h.size) (fun hm=>(hs i hm).elim hn (fun h'=>by omega))).trans (h.block i hi hn)⟩
theorem Ac.weaken{fp fp':List Nat}{a b:World}(h:Ac fp a b)(hs:∀x∈fp,x∈fp'∨a.heap.size≤x):Ac fp' a b:=
 ⟨h.os,h.tape,h.output,h.size,fun i hi hn=>h.block i hi (fun hm=>(hs i hm).elim hn (fun h'=>by omega))⟩
theorem Ac.alloc(fp:List Nat)(w:World)(o:Obj):Ac fp w (w.alloc o):=⟨rfl,rfl,rfl,by simp,fun k hk _=>(MapKept.heap_alloc w o).2 k hk⟩
theorem Ac.setCell(fp:List Nat)(w:World)(a:Addr)(u:Value)(h:a.block∈fp):Ac fp w (w.setCell a u):=
 ⟨rfl,rfl,rfl,by simp [World.setCell],fun k _ hn=>Below.heap_setCell _ _ _ _ (fun e=>hn (e▸h))⟩
theorem Ac.mset(fp:List Nat)(w:World)(b:Nat)(o:Obj)(h:b∈fp):Ac fp w (mset w b o):=
 ⟨rfl,rfl,rfl,by simp [YtkfillfkbhbbjaaGreatDoor.mset],fun k _ hn=>Jf (fun e=>hn (e▸h))⟩
theorem Ac.drew(fp:List Nat)(w:World):Ac fp w w.drew:=⟨rfl,rfl,rfl,Nat.le_refl _,fun _ _ _=>rfl⟩
theorem Ac.drewN(fp:List Nat)(w:World)(n:Nat):Ac fp w (w.drewN n):=⟨rfl,rfl,rfl,Nat.le_refl _,fun _ _ _=>rfl⟩
theorem Ac.grown{fp:List Nat}{w w':World}{r:Option Nat}(h:w.grownBy w' r)(hr:∀k,r=some k→k∈fp∨w.heap.size≤k):Ac fp w w':=
 ⟨h.os,h.tape,h.output,h.size,fun k hk hn=>h.block k hk (fun e=>(hr k e.symm).elim hn (fun h'=>by omega))⟩
theorem Ac.at{fp:List Nat}{w w':World}(h:Ac fp w w'){k:Nat}{x:Obj}(hk:w.heap[k]? =some x)(hn:k∉fp):w'.heap[k]? =some x:=by
 rw [h.block k (Ad hk) hn];exact hk
structure Rn (w w':World) (g:Nat) (t:TypeId) (c:Array Value):Prop where
 size:w'.heap.size=w.heap.size
 row:w'.heap[g]? =some (.cells c t (0,0))
 keeps:Ac [g] w w'
theorem Rn.at{w w':World}{g:Nat}{t:TypeId}{c:Array Value}(h:Rn w w' g t c){k:Nat}{x:Obj}(hk:w.heap[k]? =some x)(hn:k≠g):w'.heap[k]? =some x:=h.keeps.at hk (by simpa using hn)
theorem Vn{w:World}{g:Nat}{t:TypeId}{cur c:Array Value}(h:w.heap[g]? =some (.cells cur t (0,0))):Rn w (w.setRow g c) g t c:=
 ⟨by simp [World.setRow],setRow_heap w g cur c t (0,0) h,⟨rfl,rfl,rfl,by simp [World.setRow],fun k _ hn=>by
  simp only [World.setRow,Array.getElem?_modify];rw [if_neg (by simpa using fun e=>hn (by simp [e]))]⟩⟩
/-! ### at the operation -/
theorem Uh{P:Program}{w:World}{ops:Array Oper}{rest:List Oper}{o:Oper}{a:Act}{Q:Exit→Act→World→Prop}(hgd:o.guard=none)(ty:TypeId)(x y:Operand)(ho:o.op= .store ty x y)(g off:Nat)(t:TypeId)(cur:Array Value)(hg:w.heap[g]? =some (.cells cur t (0,0)))(hx:a.eval x= .pointer (some ⟨g,off,none⟩))(v:Value)(hy:a.eval y=v)(hi:(P.info? ty).map (·.size)=some v.cells.size)(hs:off+v.cells.size≤cur.size)(h1:∀u∈v.cells.toList,u.oneCell'=true)(hK':∀w',Rn w w' g t (cur.toList.take off++v.cells.toList++cur.toList.drop (off+v.cells.toList.length)).toArray→wpList P ops Q rest (a.put o.dst undef) w'):wpList P ops Q (o::rest) a w:=by
 refine wpList_plain hgd fun K' hK''=> ?_
 have hst:=run_storeCells_at P g off t v.cells.toList 0 cur w hg (by simpa using hs) h1
 cases hq:P.info? ty with
 |none=>simp [hq] at hi
 |some i=>
  have hsz:v.cells.size=i.size:=by simp [hq] at hi;omega
  unfold Oper.wp;simp [execOp,ho,hx,hy,Instr.storeAt,Instr.sureAddr,storeVar,sizeOf,typeInfo,hq,hsz,hst,Result.andThen];refine hK'' _ _ (hK' _ ?_);simp only [Array.length_toList,hsz,List.append_assoc];exact Vn hg
theorem Sh{w:World}{base size n:Nat}{e:TypeId}{v:Value}{xs:List Value}(h:w.ownsRow base e size v n xs){g:Nat}(hg:v.ownBlock=some g):∃cur,w.heap[g]? =some (.cells cur e (0,0)):=by
 rcases h.2 with ⟨rfl,_⟩|⟨g',cap,cur,rfl,_,hh,_⟩
 ·simp [Value.ownBlock] at hg
 simp [Value.ownBlock] at hg;subst hg;exact ⟨cur,hh⟩
theorem Ge{w w':World}{base size n:Nat}{e:TypeId}{v:Value}{xs:List Value}(h:w.ownsRow base e size v n xs)(hk:∀g,v.ownBlock=some g→w'.heap[g]? =w.heap[g]?):w'.ownsRow base e size v n xs:=by
 refine ⟨h.1, ?_⟩
 rcases h.2 with hn|⟨g,cap,cur,rfl,hb,hh,rest⟩
 ·exact .inl hn
 exact .inr ⟨g,cap,cur,rfl,hb,by rw [hk g rfl];exact hh,rest⟩
theorem KV{w w':World}{base size n:Nat}{e:TypeId}{v:Value}{xs:List Value}(h:w.ownsRow base e size v n xs)(hk:Ac [] w w'):w'.ownsRow base e size v n xs:=
 Ge h fun g hg=>by
  obtain ⟨cur,hc⟩:=Sh h hg;exact hk.block g (Ad hc) (by simp)
theorem NU{w:World}{base base' size n:Nat}{e:TypeId}{v:Value}{xs:List Value}(h:w.ownsRow base e size v n xs)(hb:base'≤base):w.ownsRow base' e size v n xs:=by
 refine ⟨h.1, ?_⟩
 rcases h.2 with hn|⟨g,cap,cur,rfl,h1,rest⟩
 ·exact .inl hn
 exact .inr ⟨g,cap,cur,rfl,Nat.le_trans hb h1,rest⟩
theorem Oa{w:World}{ops:Array Oper}{rest:List Oper}{a:Act}{Q:Exit→Act→World→Prop}{ty:TypeId}{pos:String}{after:Array Edge}{tx ty':Tmp}{vt:TypeId}(T:TypeId)
  (g off:Nat) (cur:Array Value) (hg:w.heap[g]? =some (.cells cur T (0,0))) (hx:a.eval (.tmp tx)= .pointer (some ⟨g,off,none⟩)) (v:Value) (hy:a.eval (.tmp ty')=v)
  (hi:(Tryz.prog.info? vt).map (·.size)=some v.cells.size) (hs:off+v.cells.size≤cur.size) (h1:∀u∈v.cells.toList,u.oneCell'=true)
  (hK':∀w',Rn w w' g T (cur.toList.take off++v.cells.toList++cur.toList.drop (off+v.cells.toList.length)).toArray→wpList Tryz.prog ops Q rest (a.put none undef) w'):
  wpList Tryz.prog ops Q (⟨none,.store vt (.tmp tx) (.tmp ty'),ty,pos,after,none⟩::rest) a w:=
 Uh rfl vt _ _ rfl g off T cur hg hx v hy hi hs h1 hK'
theorem Aa{w:World}{b:Nat}{c:Array Value}{T:TypeId}{f:Nat×Nat}(h:w.heap[b]? =some (.cells c T f))(o:Nat):w.cell? ⟨b,o,none⟩=c[o]? :=by
 simp [World.cell?,h]
theorem Ab{w:World}{b:Nat}{c:Array Value}{T:TypeId}(h:w.heap[b]? =some (.cells c T (0,0)))(o:Nat):w.frozen? ⟨b,o,none⟩=false:=by
 simp [World.frozen?,h]
theorem Ac.cell{w w':World}(h:Ac [] w w'){b o:Nat}{v:Value}(hb:b<w.heap.size)(hc:w.cell? ⟨b,o,none⟩=some v):w'.cell? ⟨b,o,none⟩=some v:=by
 rw [World.cell?_of_block (w:=w) (a:=⟨b,o,none⟩) (h.block b hb (by simp))];exact hc
end Go.Proofs.YtkfillfkbhbbjaaGreatDoor
