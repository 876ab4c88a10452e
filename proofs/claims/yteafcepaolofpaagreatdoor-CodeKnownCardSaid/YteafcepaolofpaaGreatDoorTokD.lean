/- Texts of this claim, joined: Kit, TokA, TokB, TokC, TokD. -/
import Derived.Test.YteafcepaolofpaaGreatDoorRows
import Derived.WalkKit
import Derived.WalkSpells
import Derived.WalkLawsBesides
import Derived.Maps.OwnOps
import Derived.Lib.Hide
import Derived.Deep.Draws
import Derived.Deep.Upon
import Derived.Test.YteafcepaolofpaaGreatDoorSpec
import Derived.Laws.DeepStrings4
import Derived.Deep.LoopGhost
import Derived.Deep.DeepCutAuto
import Derived.Deep.QuietTactic
import Derived.Deep.RegionLaw
import Derived.Deep.RegionWith
import Derived.Laws.BytesArg
set_option maxRecDepth 100000
set_option maxHeartbeats 4000000
set_option linter.unusedSimpArgs false
set_option linter.unusedVariables false
set_option linter.unusedSectionVars false
section
/- Blocks, what a step keeps, rows of the call's own: laws at the operation. Of my texts over the table's seat. -/
namespace Go.Proofs.YteafcepaolofpaaGreatDoor
open Go.RowKit Go.MapKept

/-! ### a block that is no row of cells, put in another's place -/
def mset(w:World)(b:Nat)(o:Obj):World:={w with heap:=w.heap.setIfInBounds b o}

theorem heap_mset_eq{w:World}{b:Nat}{o:Obj}(h:b<w.heap.size):(mset w b o).heap[b]? =some o:=by
  simp [mset,h]
theorem heap_mset_ne{w:World}{b:Nat}{o:Obj}{k:Nat}(h:k≠b):(mset w b o).heap[k]? =w.heap[k]? :=by
  simp [mset,Ne.symm h]
@[go_sem] theorem size_mset (w:World) (b:Nat) (o:Obj):(mset w b o).heap.size=w.heap.size:=by simp [mset]
@[go_sem] theorem cell_mset_ne {w:World} {b:Nat} {o:Obj} {k:Nat} {i:Nat} (h:k≠b):(mset w b o).cell? ⟨k,i,none⟩=w.cell? ⟨k,i,none⟩:=by
  simp only [World.cell?,heap_mset_ne h]
@[go_sem] theorem frozen_mset_ne {w:World} {b:Nat} {o:Obj} {k:Nat} {i:Nat} (h:k≠b):(mset w b o).frozen? ⟨k,i,none⟩=w.frozen? ⟨k,i,none⟩:=by
  simp only [World.frozen?,heap_mset_ne h]
/-! ### what a block holds, behind a step -/
theorem h_lt{w:World}{b:Nat}{x:Obj}(h:w.heap[b]? =some x):b<w.heap.size:=(Array.getElem?_eq_some_iff.1 h).1
theorem h_alloc{w:World}{o:Obj}{b:Nat}{x:Obj}(h:w.heap[b]? =some x):(w.alloc o).heap[b]? =some x:=by
  rw [(MapKept.heap_alloc w o).2 b (h_lt h)];exact h
theorem h_new(w:World)(o:Obj):(w.alloc o).heap[w.heap.size]? =some o:=(MapKept.heap_alloc w o).1
theorem h_set_ne{w:World}{a:Addr}{u:Value}{b:Nat}{x:Obj}(hb:b≠a.block)(h:w.heap[b]? =some x):(w.setCell a u).heap[b]? =some x:=by
  rw [Below.heap_setCell _ _ _ _ hb];exact h
theorem h_set_eq{w:World}{b i:Nat}{u:Value}{c:Array Value}{T:TypeId}{f:Nat×Nat}(h:w.heap[b]? =some (.cells c T f)):
    (w.setCell ⟨b,i,none⟩ u).heap[b]? =some (.cells (c.setIfInBounds i u) T f):=by
  have hlt:=h_lt h
  simp [World.setCell,Array.getElem?_modify,h]
/-! ### what a step leaves as it was: every old block but those of a list -/
structure Keeps (fp:List Nat) (w w':World):Prop where
  os:w'.os=w.os
  tape:w'.tape=w.tape
  output:w'.output=w.output
  size:w.heap.size≤w'.heap.size
  block:∀k,k<w.heap.size→k∉fp→w'.heap[k]? =w.heap[k]?

theorem Keeps.refl(fp:List Nat)(w:World):Keeps fp w w:=⟨rfl,rfl,rfl,Nat.le_refl _,fun _ _ _=>rfl⟩
theorem Keeps.trans{fp fp':List Nat}{a b c:World}(h:Keeps fp a b)(k:Keeps fp' b c)(hs:∀x∈fp',x∈fp∨a.heap.size≤x):Keeps fp a c:=
  ⟨k.os.trans h.os,k.tape.trans h.tape,k.output.trans h.output,Nat.le_trans h.size k.size,fun i hi hn=>
    (k.block i (Nat.lt_of_lt_of_le hi h.size) (fun hm=>(hs i hm).elim hn (fun h'=>by omega))).trans (h.block i hi hn)⟩
theorem Keeps.weaken{fp fp':List Nat}{a b:World}(h:Keeps fp a b)(hs:∀x∈fp,x∈fp'∨a.heap.size≤x):Keeps fp' a b:=
  ⟨h.os,h.tape,h.output,h.size,fun i hi hn=>h.block i hi (fun hm=>(hs i hm).elim hn (fun h'=>by omega))⟩
theorem Keeps.alloc(fp:List Nat)(w:World)(o:Obj):Keeps fp w (w.alloc o):=⟨rfl,rfl,rfl,by simp,fun k hk _=>(MapKept.heap_alloc w o).2 k hk⟩
theorem Keeps.setCell(fp:List Nat)(w:World)(a:Addr)(u:Value)(h:a.block∈fp):Keeps fp w (w.setCell a u):=
  ⟨rfl,rfl,rfl,by simp [World.setCell],fun k _ hn=>Below.heap_setCell _ _ _ _ (fun e=>hn (e▸h))⟩
theorem Keeps.mset(fp:List Nat)(w:World)(b:Nat)(o:Obj)(h:b∈fp):Keeps fp w (mset w b o):=
  ⟨rfl,rfl,rfl,by simp [YteafcepaolofpaaGreatDoor.mset],fun k _ hn=>heap_mset_ne (fun e=>hn (e▸h))⟩
theorem Keeps.drew(fp:List Nat)(w:World):Keeps fp w w.drew:=⟨rfl,rfl,rfl,Nat.le_refl _,fun _ _ _=>rfl⟩
theorem Keeps.drewN(fp:List Nat)(w:World)(n:Nat):Keeps fp w (w.drewN n):=⟨rfl,rfl,rfl,Nat.le_refl _,fun _ _ _=>rfl⟩
theorem Keeps.grown{fp:List Nat}{w w':World}{r:Option Nat}(h:w.grownBy w' r)(hr:∀k,r=some k→k∈fp∨w.heap.size≤k):Keeps fp w w':=
  ⟨h.os,h.tape,h.output,h.size,fun k hk hn=>h.block k hk (fun e=>(hr k e.symm).elim hn (fun h'=>by omega))⟩
theorem Keeps.at{fp:List Nat}{w w':World}(h:Keeps fp w w'){k:Nat}{x:Obj}(hk:w.heap[k]? =some x)(hn:k∉fp):w'.heap[k]? =some x:=by
  rw [h.block k (h_lt hk) hn];exact hk
/-- One row of cells has turned, nothing else. -/
structure RowStep (w w':World) (g:Nat) (t:TypeId) (c:Array Value):Prop where
  size:w'.heap.size=w.heap.size
  row:w'.heap[g]? =some (.cells c t (0,0))
  keeps:Keeps [g] w w'
theorem RowStep.at{w w':World}{g:Nat}{t:TypeId}{c:Array Value}(h:RowStep w w' g t c){k:Nat}{x:Obj}(hk:w.heap[k]? =some x)(hn:k≠g):w'.heap[k]? =some x:=h.keeps.at hk (by simpa using hn)
theorem rowStep_setRow{w:World}{g:Nat}{t:TypeId}{cur c:Array Value}(h:w.heap[g]? =some (.cells cur t (0,0))):RowStep w (w.setRow g c) g t c:=
  ⟨by simp [World.setRow],setRow_heap w g cur c t (0,0) h,⟨rfl,rfl,rfl,by simp [World.setRow],fun k _ hn=>by
    simp only [World.setRow,Array.getElem?_modify]
    rw [if_neg (by simpa using fun e=>hn (by simp [e]))]⟩⟩

/-! ### at the operation -/
theorem wpList_store_at{P:Program}{w:World}{ops:Array Oper}{rest:List Oper}{o:Oper}{a:Act}{Q:Exit→Act→World→Prop}(hgd:o.guard=none)(ty:TypeId)(x y:Operand)(ho:o.op= .store ty x y)
    (g off:Nat) (t:TypeId) (cur:Array Value) (hg:w.heap[g]? =some (.cells cur t (0,0))) (hx:a.eval x= .pointer (some ⟨g,off,none⟩)) (v:Value) (hy:a.eval y=v)
    (hi:(P.info? ty).map (·.size)=some v.cells.size) (hs:off+v.cells.size≤cur.size) (h1:∀u∈v.cells.toList,u.oneCell'=true)
    (hK':∀w',RowStep w w' g t (cur.toList.take off++v.cells.toList++cur.toList.drop (off+v.cells.toList.length)).toArray→wpList P ops Q rest (a.put o.dst undef) w'):
    wpList P ops Q (o::rest) a w:=by
  refine wpList_plain hgd fun K' hK''=> ?_
  have hst:=run_storeCells_at P g off t v.cells.toList 0 cur w hg (by simpa using hs) h1
  cases hq:P.info? ty with
  |none=>simp [hq] at hi
  | some i=>
    have hsz:v.cells.size=i.size:=by simp [hq] at hi;omega
    unfold Oper.wp
    simp [execOp,ho,hx,hy,Instr.storeAt,Instr.sureAddr,storeVar,sizeOf,typeInfo,hq,hsz,hst,Result.andThen]
    refine hK'' _ _ (hK' _ ?_)
    simp only [Array.length_toList,hsz,List.append_assoc]
    exact rowStep_setRow hg

theorem own_block{w:World}{base size n:Nat}{e:TypeId}{v:Value}{xs:List Value}(h:w.ownsRow base e size v n xs){g:Nat}(hg:v.ownBlock=some g):∃cur,w.heap[g]? =some (.cells cur e (0,0)):=by
  rcases h.2 with ⟨rfl,_⟩|⟨g',cap,cur,rfl,_,hh,_⟩
  · simp [Value.ownBlock] at hg
  · simp [Value.ownBlock] at hg
    subst hg
    exact ⟨cur,hh⟩

theorem row_of_block{w w':World}{base size n:Nat}{e:TypeId}{v:Value}{xs:List Value}(h:w.ownsRow base e size v n xs)(hk:∀g,v.ownBlock=some g→w'.heap[g]? =w.heap[g]?):w'.ownsRow base e size v n xs:=by
  refine ⟨h.1, ?_⟩
  rcases h.2 with hn|⟨g,cap,cur,rfl,hb,hh,rest⟩
  · exact .inl hn
  · exact .inr ⟨g,cap,cur,rfl,hb,by rw [hk g rfl];exact hh,rest⟩


theorem row_keep0{w w':World}{base size n:Nat}{e:TypeId}{v:Value}{xs:List Value}(h:w.ownsRow base e size v n xs)(hk:Keeps [] w w'):w'.ownsRow base e size v n xs:=
  row_of_block h fun g hg=>by
    obtain ⟨cur,hc⟩:=own_block h hg
    exact hk.block g (h_lt hc) (by simp)

/-- What a row's growth leaves, for a frame from 'base' on. -/
theorem keeps_row{W w w':World}{size n:Nat}{e:TypeId}{v:Value}{xs:List Value}(hk:Keeps [] W w)(h:w.ownsRow W.heap.size e size v n xs)(hg:w.grownBy w' v.ownBlock):Keeps [] W w':=
  hk.trans (fp':=v.ownBlock.toList) (Keeps.grown hg fun k hk=>by simp [hk]) fun x hx=>by simp at hx;exact .inr (h.lt x hx).1


theorem row_mono{w:World}{base base' size n:Nat}{e:TypeId}{v:Value}{xs:List Value}(h:w.ownsRow base e size v n xs)(hb:base'≤base):w.ownsRow base' e size v n xs:=by
  refine ⟨h.1, ?_⟩
  rcases h.2 with hn|⟨g,cap,cur,rfl,h1,rest⟩
  · exact .inl hn
  · exact .inr ⟨g,cap,cur,rfl,Nat.le_trans hb h1,rest⟩

/-- A value of the type ty stored into a row of the type T. -/
theorem stT{w:World}{ops:Array Oper}{rest:List Oper}{a:Act}{Q:Exit→Act→World→Prop}{ty:TypeId}{pos:String}{after:Array Edge}{tx ty':Tmp}{vt:TypeId}(T:TypeId)
    (g off:Nat) (cur:Array Value) (hg:w.heap[g]? =some (.cells cur T (0,0))) (hx:a.eval (.tmp tx)= .pointer (some ⟨g,off,none⟩)) (v:Value) (hy:a.eval (.tmp ty')=v)
    (hi:(Tryz.prog.info? vt).map (·.size)=some v.cells.size) (hs:off+v.cells.size≤cur.size) (h1:∀u∈v.cells.toList,u.oneCell'=true)
    (hK':∀w',RowStep w w' g T (cur.toList.take off++v.cells.toList++cur.toList.drop (off+v.cells.toList.length)).toArray→wpList Tryz.prog ops Q rest (a.put none undef) w'):
    wpList Tryz.prog ops Q (⟨none,.store vt (.tmp tx) (.tmp ty'),ty,pos,after,none⟩::rest) a w:=
  wpList_store_at rfl vt _ _ rfl g off T cur hg hx v hy hi hs h1 hK'


theorem cell_of_heap{w:World}{b:Nat}{c:Array Value}{T:TypeId}{f:Nat×Nat}(h:w.heap[b]? =some (.cells c T f))(o:Nat):w.cell? ⟨b,o,none⟩=c[o]? :=by
  simp [World.cell?,h]
theorem frozen_of_heap{w:World}{b:Nat}{c:Array Value}{T:TypeId}(h:w.heap[b]? =some (.cells c T (0,0)))(o:Nat):w.frozen? ⟨b,o,none⟩=false:=by
  simp [World.frozen?,h]
theorem Keeps.cell{w w':World}(h:Keeps [] w w'){b o:Nat}{v:Value}(hb:b<w.heap.size)(hc:w.cell? ⟨b,o,none⟩=some v):w'.cell? ⟨b,o,none⟩=some v:=by
  rw [World.cell?_of_block (w:=w) (a:=⟨b,o,none⟩) (h.block b hb (by simp))];exact hc
end Go.Proofs.YteafcepaolofpaaGreatDoor
end
section
/- letter, digit, among, skip, walked. -/
namespace Go.Proofs.YteafcepaolofpaaGreatDoor
open Go.RowKit

theorem nth_some{s:ByteArray}{k:Nat}(h:k<s.size):nthZ s k=some ((s[k]'h).toNat:Int):=by simp [nthZ,h]
theorem nth_none{s:ByteArray}{k:Nat}(h:s.size≤k):nthZ s k=none:=by simp [nthZ];omega
theorem same_eq(a b:ByteArray):(a.toList==b.toList)=same a b:=by
  rw [ByteArray.toList_eq,ByteArray.toList_eq];rfl
theorem same_iff{a b:ByteArray}:same a b=true↔a=b:=by
  unfold same
  constructor
  · intro h
    have h1:a.data.toList=b.data.toList:=by simpa using h
    have h2:a.data=b.data:=Array.toList_inj.1 h1
    cases a;cases b;simp_all
  · rintro rfl;simp

set_option maxHeartbeats 1000000 in
theorem letter_any(z:Int)(w:World):Calls Tryz.prog 113 #[.int .u8 z] w fun e w'=>e= .returned (.bool (letterF z))∧w'=w:=by
  by_cases h1:65≤z
  · by_cases h2:z≤90
    · have hz:letterF z=true:=by simp [letterF,h1,h2]
      rw [hz];clear hz
      go_enter Tryz.func113,Tryz.ntmps113
      go_wp2_with fail
      go_ret
      exact ⟨rfl,rfl⟩
    · have e1:decide (z≤90)=false:=by simp [h2]
      by_cases h3:97≤z
      · by_cases h4:z≤122
        · have hz:letterF z=true:=by simp [letterF,h3,h4]
          rw [hz];clear hz
          go_enter Tryz.func113,Tryz.ntmps113
          go_wp2_with fail
          go_ret
          exact ⟨rfl,rfl⟩
        · have e4:decide (z≤122)=false:=by simp [h4]
          have e5:(z==95)=false:=by simp;omega
          have hz:letterF z=false:=by simp only [letterF,e1,e4,e5];simp
          rw [hz];clear hz
          go_enter Tryz.func113,Tryz.ntmps113
          go_wp2_with fail
          go_ret
          exact ⟨rfl,rfl⟩
      · have e3:decide (97≤z)=false:=by simp [h3]
        have hz:letterF z=(z==95):=by simp only [letterF,e1,e3];simp
        rw [hz];clear hz
        go_enter Tryz.func113,Tryz.ntmps113
        go_wp2_with fail
        go_ret
        exact ⟨rfl,rfl⟩
  · have e1:decide (65≤z)=false:=by simp [h1]
    have e3:decide (97≤z)=false:=by simp;omega
    have e5:(z==95)=false:=by simp;omega
    have hz:letterF z=false:=by simp only [letterF,e1,e3,e5];simp
    rw [hz];clear hz
    go_enter Tryz.func113,Tryz.ntmps113
    go_wp2_with fail
    go_ret
    exact ⟨rfl,rfl⟩

set_option maxHeartbeats 1000000 in
theorem digit_any(z:Int)(w:World):Calls Tryz.prog 114 #[.int .u8 z] w fun e w'=>e= .returned (.bool (digitF z))∧w'=w:=by
  by_cases h1:48≤z
  · have hz:digitF z=decide (z≤57):=by simp [digitF,h1]
    rw [hz];clear hz
    go_enter Tryz.func114,Tryz.ntmps114
    go_wp2_with fail
    go_ret
    exact ⟨rfl,rfl⟩
  · have e1:decide (48≤z)=false:=by simp [h1]
    have hz:digitF z=false:=by simp only [digitF,e1];simp
    rw [hz];clear hz
    go_enter Tryz.func114,Tryz.ntmps114
    go_wp2_with fail
    go_ret
    exact ⟨rfl,rfl⟩

theorem amongF_end{s v:ByteArray}{k fr:Nat}(hk:k≤s.size)(h:k=s.size∨nthZ s k=some 32):amongF s v (s.size+1 -k) k fr=(same (s.extract fr k) v||amongF s v (s.size+1 -(k+1)) (k+1) (k+1)):=by
  have e:s.size+1 -k=(s.size+1 -(k+1))+1:=by omega
  rw [e,amongF]
  rcases h with h|h
  · rw [nth_none (by omega)]
  · rw [h];simp
theorem amongF_on{s v:ByteArray}{k fr:Nat}{z:Int}(hk:k<s.size)(h:nthZ s k=some z)(hz:z≠32):amongF s v (s.size+1 -k) k fr=amongF s v (s.size+1 -(k+1)) (k+1) fr:=by
  have e:s.size+1 -k=(s.size+1 -(k+1))+1:=by omega
  rw [e,amongF,h]
  simp [hz]

set_option maxHeartbeats 1000000 in
theorem among_any(s v:ByteArray)(hs:s.size≤1000000)(w:World):Calls Tryz.prog 139 #[.string s,.string v] w fun e w'=>e= .returned (.bool (among s v))∧w'=w:=by
  obtain ⟨r,hr⟩:∃r,among s v=r:=⟨_,rfl⟩
  rw [hr]
  have HR:=Lib.hid hr;clear hr
  go_enter Tryz.func139,Tryz.ntmps139
  go_wp2_with fail
  go_loop [5,6] (fun fv iv=>∃k fr:Nat,k≤s.size+1∧fr≤k∧iv= .int .i64 k∧fv= .int .i64 fr∧Hid (amongF s v (s.size+1 -k) k fr=r)) (fun _ iv=>s.size+1 -(intOf iv).toNat)
  case atStart=>exact ⟨0,0,by omega,by omega,rfl,rfl,Lib.hid HR.out⟩
  case round=>
    obtain ⟨k,fr,hk,hfr,rfl,rfl,HA⟩:=hrel
    by_cases h1:k≤s.size
    · by_cases h2:k=s.size
      · subst h2
        have ha:=HA.out
        rw [amongF_end h1 (.inl rfl)] at ha
        rw [←same_eq] at ha
        cases hB:((s.extract fr s.size).toList==v.toList)
        · rw [hB] at ha
          have HA':=Lib.hid ha;clear ha HA
          go_wp2_with fail
          exact ⟨⟨s.size+1,s.size+1,by omega,by omega,by go_num,by go_num,by simpa using HA'⟩,by simp [intOf]<;>omega⟩
        · rw [hB] at ha
          have HA':=Lib.hid ha;clear ha HA
          go_wp2_with fail
          go_ret
          exact ⟨by rw [←HA'.out];rfl,rfl⟩
      · have h3:k<s.size:=by omega
        have hnz:=nth_some h3
        generalize hz:((s[k]'h3).toNat:Int)=z at*
        have e32:(z==32)=decide (z=32):=by by_cases h:z=32<;>simp [h]
        by_cases h4:z=32
        · subst h4
          have ha:=HA.out
          rw [amongF_end h1 (.inr hnz)] at ha
          rw [←same_eq] at ha
          clear hnz e32
          cases hB:((s.extract fr k).toList==v.toList)
          · rw [hB] at ha
            have HA':=Lib.hid ha;clear ha HA
            go_wp2_with fail
            exact ⟨⟨k+1,k+1,by omega,by omega,by go_num,by go_num,by simpa using HA'⟩,by simp [intOf]<;>omega⟩
          · rw [hB] at ha
            have HA':=Lib.hid ha;clear ha HA
            go_wp2_with fail
            go_ret
            exact ⟨by rw [←HA'.out];rfl,rfl⟩
        · have ha:=HA.out
          rw [amongF_on h3 hnz h4] at ha
          have HA':=Lib.hid ha;clear ha HA hnz
          go_wp2_with fail
          exact ⟨⟨k+1,fr,by omega,by omega,by go_num,rfl,HA'⟩,by simp [intOf]<;>omega⟩
    · have ha:=HA.out
      have e:s.size+1 -k=0:=by omega
      rw [e,amongF] at ha
      have HA':=Lib.hid ha;clear ha HA e
      go_wp2_with fail
      go_ret
      exact ⟨by rw [←HA'.out];rfl,rfl⟩
end Go.Proofs.YteafcepaolofpaaGreatDoor
end
section
/- skip, IsWord, IsBuilt, sign, Numeral, closes, Place, walked. -/
namespace Go.Proofs.YteafcepaolofpaaGreatDoor
open Go.RowKit

set_option maxHeartbeats 1000000 in
theorem skip_any{s:ByteArray}{i r:Nat}{f:Nat}(h:skipF s f i=some r)(hi:i≤s.size)(hs:s.size≤1000000)(w:World):
    Calls Tryz.prog 112 #[.string s,.int .i64 i] w fun e w'=>e= .returned (.int .i64 r)∧w'=w:=by
  have H:=Lib.hid h;clear h
  go_enter Tryz.func112,Tryz.ntmps112
  go_wp2_with fail
  go_loop [1] (fun iv=>∃k g:Nat,k≤s.size∧iv= .int .i64 k∧Hid (skipF s g k=some r)) (fun iv=>s.size -(intOf iv).toNat)
  case atStart=>exact ⟨i,f,hi,rfl,Lib.hid H.out⟩
  case round=>
    obtain ⟨k,g,hk,rfl,HA⟩:=hrel
    have ha:=HA.out
    clear HA
    cases g with
    |zero=>simp [skipF] at ha
    | succ g=>
      rw [skipF] at ha
      by_cases h3:k<s.size
      · rw [nth_some h3] at ha
        generalize hz:((s[k]'h3).toNat:Int)=z at*
        simp only at ha
        by_cases hb:z=32∨z=9∨z=13
        · rw [if_pos hb] at ha
          have HA:=Lib.hid ha;clear ha
          rcases hb with rfl|rfl|rfl
          all_goals
            go_wp2_with fail
            exact ⟨⟨k+1,g,by omega,by go_num,HA⟩,by simp [intOf];omega⟩
        · rw [if_neg hb] at ha
          by_cases hc:z=92∨z=35
          · rw [if_pos hc] at ha;cases ha
          · rw [if_neg hc] at ha
            obtain rfl:=Option.some.inj ha
            clear ha
            have n1:(z==32)=false:=beq_false_of_ne fun h=>hb (.inl h)
            have n2:(z==9)=false:=beq_false_of_ne fun h=>hb (.inr (.inl h))
            have n3:(z==13)=false:=beq_false_of_ne fun h=>hb (.inr (.inr h))
            have n4:(z==92)=false:=beq_false_of_ne fun h=>hc (.inl h)
            have n5:(z==35)=false:=beq_false_of_ne fun h=>hc (.inr h)
            clear hb hc
            go_wp2_with fail
            go_ret
            exact ⟨rfl,rfl⟩
      · rw [nth_none (by omega)] at ha
        obtain rfl:=Option.some.inj ha
        clear ha
        go_wp2_with fail
        go_ret
        exact ⟨rfl,rfl⟩

set_option maxRecDepth 1000000 in
theorem isWord_any(t:ByteArray)(w:World):Calls Tryz.prog 115 #[.string t] w fun e w'=>e= .returned (.bool (isWord t))∧w'=w:=by
  go_enter Tryz.func115,Tryz.ntmps115
  go_wp2_with fail
  refine (among_any words t (by decide) w).mono ?_
  rintro e w' ⟨rfl,rfl⟩
  go_wp2_with fail
  go_ret
  exact ⟨rfl,rfl⟩
set_option maxRecDepth 1000000 in
theorem isBuilt_any(t:ByteArray)(w:World):Calls Tryz.prog 116 #[.string t] w fun e w'=>e= .returned (.bool (isBuilt t))∧w'=w:=by
  go_enter Tryz.func116,Tryz.ntmps116
  go_wp2_with fail
  refine (among_any builts t (by decide) w).mono ?_
  rintro e w' ⟨rfl,rfl⟩
  go_wp2_with fail
  go_ret
  exact ⟨rfl,rfl⟩

set_option maxHeartbeats 1000000 in
theorem dig_any(s:ByteArray)(i:Nat)(hs:s.size≤1000000)(w:World):Calls Tryz.prog 149 #[.string s,.int .i64 i] w fun e w'=>e= .returned (.bool (digF s i))∧w'=w:=by
  by_cases h3:i<s.size
  · have hd:digF s i=digitF ((s[i]'h3).toNat:Int):=by simp [digF,nth_some h3]
    rw [hd]
    clear hd
    generalize hz:((s[i]'h3).toNat:Int)=z at*
    by_cases h1:48≤z
    · have hd:digitF z=decide (z≤57):=by simp [digitF,h1]
      rw [hd];clear hd
      go_enter Tryz.func149,Tryz.ntmps149
      go_wp2_with fail
      go_ret
      exact ⟨rfl,rfl⟩
    · have hd:digitF z=false:=by simp [digitF,h1]
      rw [hd];clear hd
      go_enter Tryz.func149,Tryz.ntmps149
      go_wp2_with fail
      go_ret
      exact ⟨rfl,rfl⟩
  · have hd:digF s i=false:=by simp [digF,nth_none (Nat.le_of_not_lt h3)]
    rw [hd];clear hd
    go_enter Tryz.func149,Tryz.ntmps149
    go_wp2_with fail
    go_ret
    exact ⟨rfl,rfl⟩

set_option maxRecDepth 1000000 in
theorem sign_any{s:ByteArray}{i:Nat}(h3:i<s.size)(hs:s.size≤1000000)(w:World):
    Calls Tryz.prog 122 #[.string s,.int .i64 i] w fun e w'=>e= .returned (.string ((signF s i ((s[i]'h3).toNat:Int)).getD (bs [])))∧w'=w:=by
  have hw1:IntKind.i64.wrap ((i:Int)+1)=(i:Int)+1:=IntWalk.i64_in _ (by omega)
  have hw2:IntKind.i64.wrap ((i:Int)+2)=(i:Int)+2:=IntWalk.i64_in _ (by omega)
  generalize hz:((s[i]'h3).toNat:Int)=z at*
  by_cases h1:i+1<s.size
  · cases hA:among signs2 (s.extract i (i+2))
    · by_cases h32:z=32
      · subst h32
        rw [show (signF s i 32).getD (bs [])=bs [] from by simp [signF, *]]
        go_enter Tryz.func122,Tryz.ntmps122
        go_wp2_with fail
        refine (among_any signs2 _ (by decide) w).mono ?_
        rintro e w' ⟨rfl,rfl⟩
        rw [hA]
        go_wp2_with fail
        go_ret
        exact ⟨rfl,rfl⟩
      · have n1:(z==32)=false:=beq_false_of_ne h32
        cases hB:among signs1 (s.extract i (i+1))
        · rw [show (signF s i z).getD (bs [])=bs [] from by simp [signF, *]]
          go_enter Tryz.func122,Tryz.ntmps122
          go_wp2_with fail
          refine (among_any signs2 _ (by decide) w).mono ?_
          rintro e w' ⟨rfl,rfl⟩
          rw [hA]
          go_wp2_with fail
          refine (among_any signs1 _ (by decide) _).mono ?_
          rintro e w' ⟨rfl,rfl⟩
          rw [hB]
          go_wp2_with fail
          go_ret
          exact ⟨rfl,rfl⟩
        · rw [show (signF s i z).getD (bs [])=s.extract i (i+1) from by simp [signF, *]]
          go_enter Tryz.func122,Tryz.ntmps122
          go_wp2_with fail
          refine (among_any signs2 _ (by decide) w).mono ?_
          rintro e w' ⟨rfl,rfl⟩
          rw [hA]
          go_wp2_with fail
          refine (among_any signs1 _ (by decide) _).mono ?_
          rintro e w' ⟨rfl,rfl⟩
          rw [hB]
          go_wp2_with fail
          go_ret
          exact ⟨rfl,rfl⟩
    · rw [show (signF s i z).getD (bs [])=s.extract i (i+2) from by simp [signF, *]]
      go_enter Tryz.func122,Tryz.ntmps122
      go_wp2_with fail
      refine (among_any signs2 _ (by decide) w).mono ?_
      rintro e w' ⟨rfl,rfl⟩
      rw [hA]
      go_wp2_with fail
      go_ret
      exact ⟨rfl,rfl⟩
  · by_cases h32:z=32
    · subst h32
      rw [show (signF s i 32).getD (bs [])=bs [] from by simp [signF, *]]
      go_enter Tryz.func122,Tryz.ntmps122
      go_wp2_with fail
      go_ret
      exact ⟨rfl,rfl⟩
    · have n1:(z==32)=false:=beq_false_of_ne h32
      cases hB:among signs1 (s.extract i (i+1))
      · rw [show (signF s i z).getD (bs [])=bs [] from by simp [signF, *]]
        go_enter Tryz.func122,Tryz.ntmps122
        go_wp2_with fail
        refine (among_any signs1 _ (by decide) w).mono ?_
        rintro e w' ⟨rfl,rfl⟩
        rw [hB]
        go_wp2_with fail
        go_ret
        exact ⟨rfl,rfl⟩
      · rw [show (signF s i z).getD (bs [])=s.extract i (i+1) from by simp [signF, *]]
        go_enter Tryz.func122,Tryz.ntmps122
        go_wp2_with fail
        refine (among_any signs1 _ (by decide) w).mono ?_
        rintro e w' ⟨rfl,rfl⟩
        rw [hB]
        go_wp2_with fail
        go_ret
        exact ⟨rfl,rfl⟩
end Go.Proofs.YteafcepaolofpaaGreatDoor
end
section
/- Numeral, closes, Place, walked. -/
namespace Go.Proofs.YteafcepaolofpaaGreatDoor
open Go.RowKit

theorem dig_any'(s:ByteArray)(i:Nat)(hs:s.size≤1000000)(w:World):Calls Tryz.prog 149 #[.string s,.int .i64 ((i:Int)+1)] w fun e w'=>e= .returned (.bool (digF s (i+1)))∧w'=w:=dig_any s (i+1) hs w

set_option maxRecDepth 1000000 in
theorem numeral_any{s:ByteArray}{i e:Nat}(h:numeralF s i=some e)(hi:i≤s.size)(hs:s.size≤1000000)(w:World):
    Calls Tryz.prog 120 #[.string s,.int .i64 i] w fun r w'=>r= .returned (.int .i64 e)∧w'=w:=by
  have hw1:IntKind.i64.wrap ((i:Int)+1)=(i:Int)+1:=IntWalk.i64_in _ (by omega)
  by_cases h3:i<s.size
  · have hd:digF s i=digitF ((s[i]'h3).toNat:Int):=by simp [digF,nth_some h3]
    rw [numeralF,nth_some h3] at h
    generalize hz:((s[i]'h3).toNat:Int)=z at*
    simp only at h
    cases hdz:digitF z
    · rw [hdz] at h hd
      simp only [Bool.false_eq_true,if_false] at h
      by_cases h46:z=46
      · rw [if_pos h46] at h;cases h
      · rw [if_neg h46] at h
        obtain rfl:=Option.some.inj h
        have n46:(z==46)=false:=beq_false_of_ne h46
        clear h h46 hdz
        go_enter Tryz.func120,Tryz.ntmps120
        go_wp2_with fail
        refine wp_loop_rounds 1 ?_
        rw [rounds_succ]
        go_wp2_with fail
        refine (dig_any s i hs w).mono ?_
        rintro r w' ⟨rfl,rfl⟩
        rw [hd]
        go_wp2_with fail
        go_ret
        exact ⟨rfl,rfl⟩
    · rw [hdz] at h hd
      simp only [if_true] at h
      by_cases h4:i+1<s.size
      · have hd1:digF s (i+1)=digitF ((s[i+1]'h4).toNat:Int):=by simp [digF,nth_some h4]
        rw [nth_some h4] at h
        generalize hy:((s[i+1]'h4).toNat:Int)=y at*
        simp only at h
        split at h
        · cases h
        · rename_i hn
          obtain rfl:=Option.some.inj h
          simp only [Bool.or_eq_true,not_or,Bool.not_eq_true] at hn
          obtain ⟨⟨⟨n1,n2⟩,n3⟩,n4⟩:=hn
          rw [n1] at hd1
          clear h hdz n1
          go_enter Tryz.func120,Tryz.ntmps120
          go_wp2_with fail
          refine wp_loop_rounds 2 ?_
          rw [rounds_succ]
          go_wp2_with fail
          refine (dig_any s i hs w).mono ?_
          rintro r w' ⟨rfl,rfl⟩
          rw [hd]
          go_wp2_with fail
          rw [rounds_succ]
          go_wp2_with fail
          refine (dig_any' s i hs w').mono ?_
          rintro r w'' ⟨rfl,rfl⟩
          rw [hd1]
          go_wp2_with fail
          go_ret
          exact ⟨rfl,rfl⟩
      · rw [nth_none (by omega)] at h
        obtain rfl:=Option.some.inj h
        have hd1:digF s (i+1)=false:=by simp [digF,nth_none (Nat.le_of_not_lt h4)]
        clear h hdz
        go_enter Tryz.func120,Tryz.ntmps120
        go_wp2_with fail
        refine wp_loop_rounds 2 ?_
        rw [rounds_succ]
        go_wp2_with fail
        refine (dig_any s i hs w).mono ?_
        rintro r w' ⟨rfl,rfl⟩
        rw [hd]
        go_wp2_with fail
        rw [rounds_succ]
        go_wp2_with fail
        refine (dig_any' s i hs w').mono ?_
        rintro r w'' ⟨rfl,rfl⟩
        rw [hd1]
        go_wp2_with fail
        go_ret
        exact ⟨rfl,rfl⟩
  · rw [numeralF,nth_none (by omega)] at h
    obtain rfl:=Option.some.inj h
    have hd:digF s i=false:=by simp [digF,nth_none (Nat.le_of_not_lt h3)]
    clear h
    go_enter Tryz.func120,Tryz.ntmps120
    go_wp2_with fail
    refine wp_loop_rounds 1 ?_
    rw [rounds_succ]
    go_wp2_with fail
    refine (dig_any s i hs w).mono ?_
    rintro r w' ⟨rfl,rfl⟩
    rw [hd]
    go_wp2_with fail
    go_ret
    exact ⟨rfl,rfl⟩

set_option maxRecDepth 1000000 in
theorem closes_any{s:ByteArray}{i e f:Nat}(h3:i<s.size)(h:closesF s ((s[i]'h3).toNat:Int) f (i+1)=some e)(hs:s.size≤1000000)(w:World):
    Calls Tryz.prog 117 #[.string s,.int .i64 i] w fun r w'=>r= .returned (.int .i64 e)∧∃n,w'=w.drewN n:=by
  generalize hq:((s[i]'h3).toNat:Int)=q at*
  have H:=Lib.hid h;clear h
  go_enter Tryz.func117,Tryz.ntmps117
  go_wp2_with fail
  go_loopw [5] (fun iv wr=>∃k g:Nat,k≤s.size∧iv= .int .i64 k∧Hid (closesF s q g k=some e)∧∃n,wr=w.drewN n) (fun iv _=>s.size -(intOf iv).toNat)
  case atStart=>exact ⟨i+1,f,by omega,by go_num,Lib.hid H.out,0,rfl⟩
  case round=>
    obtain ⟨k,g,hk,rfl,HA,n,rfl⟩:=hrel
    have ha:=HA.out
    clear HA
    cases g with
    |zero=>simp [closesF] at ha
    | succ g=>
      rw [closesF] at ha
      by_cases h4:k<s.size
      · rw [nth_some h4] at ha
        generalize hz:((s[k]'h4).toNat:Int)=z at*
        simp only at ha
        by_cases h10:z=10
        · rw [if_pos h10] at ha;cases ha
        · rw [if_neg h10] at ha
          have n10:(z==10)=false:=beq_false_of_ne h10
          by_cases hzq:z=q
          · rw [if_pos hzq] at ha
            obtain rfl:=Option.some.inj ha
            clear ha h10
            subst hzq
            go_upto_region 4 with fail
            go_quiet (fail)
            go_wp2_with fail
            go_ret
            exact ⟨rfl,n+nq,by first|rfl|rw [World.drewN_drewN]⟩
          · rw [if_neg hzq] at ha
            by_cases h92:z=92
            · rw [if_pos h92] at ha;cases ha
            · rw [if_neg h92] at ha
              have n92:(z==92)=false:=beq_false_of_ne h92
              have nq':(z==q)=false:=beq_false_of_ne hzq
              have HA:=Lib.hid ha
              clear ha h10 hzq h92
              go_upto_region 4 with fail
              go_quiet (fail)
              go_wp2_with fail
              go_roundw
              case rel=>exact ⟨k+1,g,by omega,by go_num,HA,n+nq,by first|rfl|rw [World.drewN_drewN]⟩
              case measure=>simp [intOf];omega
      · rw [nth_none (by omega)] at ha;cases ha

theorem placeF_nl{s:ByteArray}{i k l c:Nat}(hk:k<i)(h:nthZ s k=some 10):placeF s (i -k) k l c=placeF s (i -(k+1)) (k+1) (l+1) 1:=by
  have e:i -k=(i -(k+1))+1:=by omega
  rw [e,placeF,if_pos h]
theorem placeF_on{s:ByteArray}{i k l c:Nat}(hk:k<i)(h:nthZ s k≠some 10):placeF s (i -k) k l c=placeF s (i -(k+1)) (k+1) l (c+1):=by
  have e:i -k=(i -(k+1))+1:=by omega
  rw [e,placeF,if_neg h]

set_option maxHeartbeats 2000000 in
theorem place_any{s:ByteArray}{i:Nat}(hi:i≤s.size)(hs:s.size≤1000000)(w:World):
    Calls Tryz.prog 123 #[.string s,.int .i64 i] w fun r w'=>r= .returned (.complex .f64 (placeOf s i).1 (placeOf s i).2)∧w'=w:=by
  rcases Nat.eq_zero_or_pos i with rfl|hpos
  · have hP0:Ending.returned (.complex .f64 (floatOfInt .f64 1) (floatOfInt .f64 1))=Ending.returned (.complex .f64 (placeOf s 0).1 (placeOf s 0).2):=by
      have e:placeOf s 0=(flt 1,flt 1):=rfl
      rw [e]
      rfl
    go_enter Tryz.func123,Tryz.ntmps123
    go_wp2_with fail
    refine wp_loop_rounds 1 ?_
    rw [rounds_succ]
    go_wp2_with fail
    go_ret
    exact ⟨hP0,rfl⟩
  · obtain ⟨R,hR⟩:∃R,placeF s i 0 1 1=R:=⟨_,rfl⟩
    have hP:placeOf s i=(flt R.1,flt R.2):=by unfold placeOf;rw [hR]
    rw [hP]
    clear hP
    have HR:=Lib.hid hR;clear hR
    go_enter Tryz.func123,Tryz.ntmps123
    go_wp2_with fail
    go_loop [5,6,7] (fun lv cv iv=>∃k l c:Nat,k≤i∧l≤k+1∧c≤k+1∧iv= .int .i64 k∧lv= .int .i64 l∧cv= .int .i64 c∧Hid (placeF s (i -k) k l c=R)) (fun _ _ iv=>i -(intOf iv).toNat)
    case atStart=>exact ⟨0,1,1,by omega,by omega,by omega,rfl,rfl,rfl,Lib.hid (by simpa using HR.out)⟩
    case round=>
      obtain ⟨k,l,c,hk,hl,hc,rfl,rfl,rfl,HA⟩:=hrel
      by_cases h1:k<i
      · have h4:k<s.size:=by omega
        have hnz:=nth_some h4
        have ha:=HA.out
        clear HA
        generalize hz:((s[k]'h4).toNat:Int)=z at*
        by_cases h10:z=10
        · subst h10
          rw [placeF_nl h1 hnz] at ha
          have HA:=Lib.hid ha
          clear ha hnz
          go_wp2_with fail
          exact ⟨⟨k+1,l+1,1,by omega,by omega,by omega,by go_num,by go_num,rfl,HA⟩,by simp [intOf];omega⟩
        · rw [placeF_on h1 (by rw [hnz];simpa using h10)] at ha
          have HA:=Lib.hid ha
          have n10:(z==10)=false:=beq_false_of_ne h10
          clear ha hnz h10
          go_wp2_with fail
          exact ⟨⟨k+1,l,c+1,by omega,by omega,by omega,by go_num,rfl,by go_num,HA⟩,by simp [intOf];omega⟩
      · have e:i -k=0:=by omega
        have ha:=HA.out
        rw [e,placeF] at ha
        have HA':=Lib.hid ha
        clear ha HA e
        go_wp2_with fail
        go_ret
        exact ⟨by rw [←HA'.out];rfl,rfl⟩
end Go.Proofs.YteafcepaolofpaaGreatDoor
end
section
/- told, walked: a text without a backslash. -/
namespace Go.Proofs.YteafcepaolofpaaGreatDoor
open Go.RowKit

theorem info5:(Tryz.prog.info? 5).map (fun i=>(i.zero,i.size,i.bytes))=some (some (.int .u8 0),1,1):=by kernel_rfl
def bCell(b:UInt8):Value:= .int .u8 b.toNat
def bRow(bs:List UInt8):List Value:=bs.map bCell
theorem bRow_append(a b:List UInt8):bRow (a++b)=bRow a++bRow b:=List.map_append
theorem bRow_one(a:List UInt8):∀u∈bRow a,u.oneCell'=true:=by
  intro u hu
  obtain ⟨b,_,rfl⟩:=List.mem_map.1 hu
  rfl
def Bys(w:World)(base:Nat)(v:Value)(bs:List UInt8):Prop:=w.ownsRow base 5 1 v bs.length (bRow bs)
theorem Bys.keep{w w':World}{base:Nat}{v:Value}{bs:List UInt8}(h:Bys w base v bs)(hk:Keeps [] w w'):Bys w' base v bs:=row_keep0 h hk
theorem Bys.src{w:World}{base:Nat}{v:Value}{bs:List UInt8}(h:Bys w base v bs)(hn:0<bs.length):∃g cap,v= .slice (some ⟨g,0,none⟩) bs.length cap∧∀j u,(bRow bs)[j]? =some u→w.cell? ((⟨g,0,none⟩:Addr).add j)=some u:=by
  have h0:=h
  unfold Bys at h
  rcases h.2 with ⟨_,e⟩|⟨g,cap,cur,rfl,_⟩
  · omega
  · exact ⟨g,cap,rfl,World.ownsRow.cells (g:=g) h0 rfl⟩
theorem conv_bys{W:World}{base:Nat}{v:Value}{bs:List UInt8}(h:Bys W base v bs)(hn:0<bs.length):(convert 206 9 v).run Tryz.prog W= .ok (.string ⟨bs.toArray⟩) W:=by
  obtain ⟨g,c,rfl,hs⟩:=h.src hn
  have:=run_convert_bytes_arg (P:=Tryz.prog) W 206 5 Tryz.underlying206 Tryz.underlying5 g 0 bs.length c (bs.map fun x=>(x.toNat:Int)) (by simp) (fun i hi=>by
    have h1:=hs i (bCell bs[i]) (by simp [bRow,hi])
    have hadd:(⟨g,0,none⟩:Addr).add i=⟨g,0+i,none⟩:=by unfold Addr.add;split<;>simp_all
    rw [hadd] at h1
    rw [h1]
    simp [bCell,hi]) 9 Tryz.underlying9
  rw [this]
  simp [strOfNums,Function.comp_def]
theorem one_new(w:World)(v:Value)(e:TypeId):∀(j:Nat) (u:Value),[v][j]? =some u→(w.alloc (.cells #[v] e)).cell? ((⟨w.heap.size,0,none⟩:Addr).add j)=some u:=by
  intro j u hj
  cases j with
  |zero=>simp at hj;subst hj;exact cell_of_heap (h_new _ _) 0
  |succ j=>simp at hj

theorem told_nil(w:World):Calls Tryz.prog 119 #[.string ⟨#[]⟩] w fun r w'=>r= .returned (.tuple #[.string ⟨#[]⟩,.bool true])∧Keeps [] w w':=by
  go_enter Tryz.func119,Tryz.ntmps119
  go_wp2_with fail
  refine wp_loop_rounds 1 ?_
  rw [rounds_succ]
  have hcv:=run_convert_bytes_nil (P:=Tryz.prog) w 206 5 Tryz.underlying206 Tryz.underlying5 0 0 9 Tryz.underlying9
  go_wp2_with fail
  go_ret2
  exact ⟨rfl,Keeps.refl [] w⟩

set_option maxRecDepth 1000000 in
theorem told_pos{t:ByteArray}(h:plainF t=true)(hs:t.size≤1000000)(h0:0<t.size)(w:World):
    Calls Tryz.prog 119 #[.string t] w fun r w'=>r= .returned (.tuple #[.string t,.bool true])∧Keeps [] w w':=by
  obtain ⟨i5,hi,hz0,hz1,hz2⟩:=info_parts info5
  have N5:=Lib.hid hi;have N5z:=Lib.hid hz0;have N5s:=Lib.hid hz1;have N5b:=Lib.hid hz2;clear hi hz0 hz1 hz2
  have hp:∀(k:Nat) (hk:k<t.size),((((t[k]'hk).toNat:Int)==92)=false):=by
    intro k hk
    have:=List.all_eq_true.1 h (t[k]'hk) (by
      have:t[k]'hk=t.data.toList[k]'hk:=rfl
      rw [this];exact List.getElem_mem _)
    apply beq_false_of_ne
    intro e
    have e':(t[k]'hk).toNat=92:=by omega
    have e2:t[k]'hk=92:=UInt8.toNat_inj.1 e'
    rw [e2] at this
    simp at this
  have hl:t.data.toList.length=t.size:=rfl
  have HP:=Lib.hid hp;have HL:=Lib.hid hl;clear hp h hl
  go_enter Tryz.func119,Tryz.ntmps119
  go_wp2_with fail
  go_loopw [4,5] (fun ov iv wr=>∃k:Nat,k≤t.size∧iv= .int .i64 k∧Bys wr w.heap.size ov (t.data.toList.take k)∧Keeps [] w wr) (fun _ iv _=>t.size -(intOf iv).toNat)
  case atStart=>exact ⟨0,by omega,rfl,by simpa [Bys,bRow] using World.ownsRow_nil _ _ _ _,Keeps.refl [] w⟩
  case round=>
    obtain ⟨k,hk,rfl,hB,hK⟩:=hrel
    have HBY:=Lib.hid hB;have HK:=Lib.hid hK
    clear hB hK
    by_cases h1:k<t.size
    · have hz:=HP.out k h1
      generalize hzz:((t[k]'h1).toNat:Int)=z at*
      have hzb:z=((t[k]'h1).toNat:Int):=hzz.symm
      have HZB:=Lib.hid hzb
      have htk:t.data.toList.take (k+1)=t.data.toList.take k++ [t[k]'h1]:=List.take_succ_eq_append_getElem (by rw [HL.out];exact h1)
      have htl:(t.data.toList.take k).length=k:=by rw [List.length_take,HL.out];omega
      have HTK:=Lib.hid htk;have HTL:=Lib.hid htl
      clear htk htl hzb
      go_wp2_with (at_builtin;refine wpList_append_own _ rfl (.tmp 19) (.tmp 23) 206 rfl w.heap.size 5 i5 (.int .u8 0) 1 1 Tryz.underlying206 N5.out N5z.out N5s.out N5b.out rfl (by decide) _ _ _ rfl (row_keep0 HBY.out (Keeps.alloc [] _ _)) ⟨wr.heap.size,0,none⟩ 1 1 (bRow [t[k]'h1]) rfl rfl ?c1 (bRow_one _) ?c3 ?c4 ?c5 ?_)
      case c1=>
        have:=one_new wr (bCell (t[k]'h1)) 5
        simp only [bCell,hzz] at this
        simpa [bRow,bCell,hzz] using this
      case c3=>simp only [maxLen];rw [HTL.out];omega
      case c4=>rw [HTL.out];omega
      case c5=>have:=HK.out.size;simp;omega
      intro v6 w6 hown6 hg6 _
      rw [←bRow_append,←HTK.out] at hown6
      have hb6:Bys w6 w.heap.size v6 (t.data.toList.take (k+1)):=by
        unfold Bys
        have:(t.data.toList.take (k+1)).length=(t.data.toList.take k).length+1:=by rw [HTK.out,List.length_append];rfl
        rw [this,HTL.out]
        exact hown6
      have hk6:=keeps_row (HK.out.trans (Keeps.alloc [] wr (.cells #[.int .u8 z] 5)) (by simp)) (row_keep0 HBY.out (Keeps.alloc [] _ _)) hg6
      have HB6:=Lib.hid hb6;have HK6:=Lib.hid hk6
      clear hown6 hg6 hb6 hk6
      go_wp2_with fail
      go_roundw
      case rel=>exact ⟨k+1,by omega,by go_num,HB6.out,HK6.out⟩
      case measure=>simp [intOf];omega
    · have hke:k=t.size:=by omega
      subst hke
      have htt:t.data.toList.take t.size=t.data.toList:=List.take_of_length_le (by rw [HL.out];omega)
      have hb:=HBY.out
      rw [htt] at hb
      clear HBY htt
      have hcv:=conv_bys hb (by rw [HL.out];exact h0)
      have ht:(⟨t.data.toList.toArray⟩:ByteArray)=t:=by cases t;simp
      rw [ht] at hcv
      obtain ⟨g,c,rfl,_⟩:=hb.src (by rw [HL.out];exact h0)
      clear hb ht
      rw [HL.out] at hcv
      go_wp2_with fail
      go_ret2
      exact ⟨rfl,HK.out⟩

theorem told_any{t:ByteArray}(h:plainF t=true)(hs:t.size≤1000000)(w:World):
    Calls Tryz.prog 119 #[.string t] w fun r w'=>r= .returned (.tuple #[.string t,.bool true])∧Keeps [] w w':=by
  by_cases h0:0<t.size
  · exact told_pos h hs h0 w
  · have ht:t=⟨#[]⟩:=by
      have:t.data.size=0:=by have:t.size=t.data.size:=rfl;omega
      cases t with
      |mk d=>simp at this;simp [this]
    subst ht
    exact told_nil w
end Go.Proofs.YteafcepaolofpaaGreatDoor
end
