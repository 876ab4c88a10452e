/- Texts of this claim, joined: Stop, LevelsE, LevelsF. -/
import Derived.Test.YteafcepaolofpaaGreatDoorLevelsD
set_option maxRecDepth 100000
set_option maxHeartbeats 4000000
set_option linter.unusedSimpArgs false
set_option linter.unusedVariables false
set_option linter.unusedSectionVars false
section
/- Stops of a walk: the world put for a variable of which these things are known. -/
namespace Go.Proofs.YteafcepaolofpaaGreatDoor
open Go.RowKit

/-- The world at a call, put for a variable of which these things are known. -/
theorem calls_at{P:Program}{f:FuncId}{args:Array Value}{Q:Ending→World→Prop}{W:World}(F:World→Prop)(hF:F W)(h:∀W',F W'→Calls P f args W' Q):Calls P f args W Q:=h W hF
/-- The world at a return. -/
theorem ret_at{P:Program}{fn:Func}{R:Ending→World→Prop}{a:Act}{W:World}{v:Value}(F:World→Prop)(hF:F W)(hr:∀W',F W'→(results fn a.tmps).run P W'= .ok v W')(hd:a.defers= [])
    (hR:∀W',F W'→R (.returned v) W'):bodyPost P fn R .ret a W:=⟨hd,v,hr W hF,hR W hF⟩
theorem wp_at{P:Program}{c:Code}{Q:Exit→Act→World→Prop}{a:Act}{W:World}(F:World→Prop)(hF:F W)(h:∀W',F W'→c.wp P Q a W'):c.wp P Q a W:=h W hF
theorem list_at{P:Program}{ops l:List Oper}{Q:Exit→Act→World→Prop}{a:Act}{W:World}(F:World→Prop)(hF:F W)(h:∀W',F W'→wpList P ops.toArray Q l a W'):wpList P ops.toArray Q l a W:=h W hF
theorem inv_at{G:World→Prop}{W:World}(F:World→Prop)(hF:F W)(h:∀W',F W'→G W'):G W:=h W hF
theorem end_at{P:Program}{fn:Func}{R:Ending→World→Prop}{a:Act}{W:World}{v:Value}(F:World→Prop)(hF:F W)(hr:∀W',F W'→(results fn a.tmps).run P W'= .ok v W')(hd:a.defers= [])
    (hR:∀W',F W'→R (.returned v) W'):bodyPost P fn R .normal a W:=⟨hd,v,hr W hF,hR W hF⟩

theorem keep_alloc{fp:List Nat}{w W:World}(h:Keeps fp w W)(o:Obj):Keeps fp w (W.alloc o):=h.trans (fp':= []) (Keeps.alloc [] W o) (by simp)
theorem keep_set{fp:List Nat}{w W:World}(h:Keeps fp w W){b i:Nat}{u:Value}(hb:b∈fp∨w.heap.size≤b):Keeps fp w (W.setCell ⟨b,i,none⟩ u):=
  h.trans (fp':= [b]) (Keeps.setCell _ _ _ _ (by simp)) (by simpa using hb)
theorem keep_drew{fp:List Nat}{w W:World}(h:Keeps fp w W):Keeps fp w W.drew:=h.trans (fp':= []) (Keeps.drew [] W) (by simp)

/-! ### what a block holds, as an equation -/
def Obj.put:Obj→Nat→Value→Obj
  | .cells c T f,i,u=> .cells (c.setIfInBounds i u) T f
  |o,_,_=>o
theorem heap_set_if(w:World)(b i k:Nat)(u:Value):(w.setCell ⟨b,i,none⟩ u).heap[k]? =if k=b then (w.heap[k]?).map (fun o=>Obj.put o i u) else w.heap[k]? :=by
  by_cases h:k=b
  · subst h
    rw [if_pos rfl]
    by_cases hk:k<w.heap.size
    · cases hx:w.heap[k]? with
      |none=>simp at hx;omega
      | some o=>
        cases o with
        |cells c T f=>simpa [Obj.put] using h_set_eq (i:=i) (u:=u) hx
        |_=>simp [World.setCell,Array.getElem?_modify,hx,Obj.put]
    · rw [Array.getElem?_eq_none (by simp [World.setCell];omega),Array.getElem?_eq_none (by omega)];rfl
  · rw [if_neg h,Below.heap_setCell _ _ _ _ h]
theorem heap_alloc_if(w:World)(o:Obj)(k:Nat):(w.alloc o).heap[k]? =if k=w.heap.size then some o else w.heap[k]? :=by
  by_cases h:k=w.heap.size
  · subst h;rw [if_pos rfl];exact h_new w o
  · rw [if_neg h]
    by_cases hk:k<w.heap.size
    · exact (MapKept.heap_alloc w o).2 k hk
    · rw [Array.getElem?_eq_none (by simp;omega),Array.getElem?_eq_none (by omega)]
theorem heap_drew(w:World)(k:Nat):w.drew.heap[k]? =w.heap[k]? :=rfl

/-! ### a row's cells, all at once; short names -/
theorem cf2{w:World}{b:Nat}{T:TypeId}{c0 c1:Value}(h:w.heap[b]? =some (.cells #[c0,c1] T (0,0))):b<w.heap.size∧w.cell? ⟨b,0,none⟩=some c0∧w.cell? ⟨b,1,none⟩=some c1∧w.frozen? ⟨b,0,none⟩=false∧w.frozen? ⟨b,1,none⟩=false:=
  ⟨h_lt h,cell_of_heap h 0,cell_of_heap h 1,frozen_of_heap h 0,frozen_of_heap h 1⟩
theorem cf3{w:World}{b:Nat}{T:TypeId}{c0 c1 c2:Value}(h:w.heap[b]? =some (.cells #[c0,c1,c2] T (0,0))):b<w.heap.size∧w.cell? ⟨b,0,none⟩=some c0∧w.cell? ⟨b,1,none⟩=some c1∧w.cell? ⟨b,2,none⟩=some c2∧w.frozen? ⟨b,0,none⟩=false∧w.frozen? ⟨b,1,none⟩=false∧w.frozen? ⟨b,2,none⟩=false:=
  ⟨h_lt h,cell_of_heap h 0,cell_of_heap h 1,cell_of_heap h 2,frozen_of_heap h 0,frozen_of_heap h 1,frozen_of_heap h 2⟩
theorem cf5{w:World}{b:Nat}{T:TypeId}{c0 c1 c2 c3 c4:Value}(h:w.heap[b]? =some (.cells #[c0,c1,c2,c3,c4] T (0,0))):b<w.heap.size∧w.cell? ⟨b,0,none⟩=some c0∧w.cell? ⟨b,1,none⟩=some c1∧w.cell? ⟨b,2,none⟩=some c2∧w.cell? ⟨b,3,none⟩=some c3∧w.cell? ⟨b,4,none⟩=some c4∧w.frozen? ⟨b,0,none⟩=false∧w.frozen? ⟨b,1,none⟩=false∧w.frozen? ⟨b,2,none⟩=false∧w.frozen? ⟨b,3,none⟩=false∧w.frozen? ⟨b,4,none⟩=false:=
  ⟨h_lt h,cell_of_heap h 0,cell_of_heap h 1,cell_of_heap h 2,cell_of_heap h 3,cell_of_heap h 4,frozen_of_heap h 0,frozen_of_heap h 1,frozen_of_heap h 2,frozen_of_heap h 3,frozen_of_heap h 4⟩
theorem cf6{w:World}{b:Nat}{T:TypeId}{c0 c1 c2 c3 c4 c5:Value}(h:w.heap[b]? =some (.cells #[c0,c1,c2,c3,c4,c5] T (0,0))):b<w.heap.size∧w.cell? ⟨b,0,none⟩=some c0∧w.cell? ⟨b,1,none⟩=some c1∧w.cell? ⟨b,2,none⟩=some c2∧w.cell? ⟨b,3,none⟩=some c3∧w.cell? ⟨b,4,none⟩=some c4∧w.cell? ⟨b,5,none⟩=some c5∧w.frozen? ⟨b,0,none⟩=false∧w.frozen? ⟨b,1,none⟩=false∧w.frozen? ⟨b,2,none⟩=false∧w.frozen? ⟨b,3,none⟩=false∧w.frozen? ⟨b,4,none⟩=false∧w.frozen? ⟨b,5,none⟩=false:=
  ⟨h_lt h,cell_of_heap h 0,cell_of_heap h 1,cell_of_heap h 2,cell_of_heap h 3,cell_of_heap h 4,cell_of_heap h 5,frozen_of_heap h 0,frozen_of_heap h 1,frozen_of_heap h 2,frozen_of_heap h 3,frozen_of_heap h 4,frozen_of_heap h 5⟩
theorem cf8{w:World}{b:Nat}{T:TypeId}{c0 c1 c2 c3 c4 c5 c6 c7:Value}(h:w.heap[b]? =some (.cells #[c0,c1,c2,c3,c4,c5,c6,c7] T (0,0))):b<w.heap.size∧w.cell? ⟨b,0,none⟩=some c0∧w.cell? ⟨b,1,none⟩=some c1∧w.cell? ⟨b,2,none⟩=some c2∧w.cell? ⟨b,3,none⟩=some c3∧w.cell? ⟨b,4,none⟩=some c4∧w.cell? ⟨b,5,none⟩=some c5∧w.cell? ⟨b,6,none⟩=some c6∧w.cell? ⟨b,7,none⟩=some c7∧w.frozen? ⟨b,0,none⟩=false∧w.frozen? ⟨b,1,none⟩=false∧w.frozen? ⟨b,2,none⟩=false∧w.frozen? ⟨b,3,none⟩=false∧w.frozen? ⟨b,4,none⟩=false∧w.frozen? ⟨b,5,none⟩=false∧w.frozen? ⟨b,6,none⟩=false∧w.frozen? ⟨b,7,none⟩=false:=
  ⟨h_lt h,cell_of_heap h 0,cell_of_heap h 1,cell_of_heap h 2,cell_of_heap h 3,cell_of_heap h 4,cell_of_heap h 5,cell_of_heap h 6,cell_of_heap h 7,frozen_of_heap h 0,frozen_of_heap h 1,frozen_of_heap h 2,frozen_of_heap h 3,frozen_of_heap h 4,frozen_of_heap h 5,frozen_of_heap h 6,frozen_of_heap h 7⟩
theorem cf9{w:World}{b:Nat}{T:TypeId}{c0 c1 c2 c3 c4 c5 c6 c7 c8:Value}(h:w.heap[b]? =some (.cells #[c0,c1,c2,c3,c4,c5,c6,c7,c8] T (0,0))):b<w.heap.size∧w.cell? ⟨b,0,none⟩=some c0∧w.cell? ⟨b,1,none⟩=some c1∧w.cell? ⟨b,2,none⟩=some c2∧w.cell? ⟨b,3,none⟩=some c3∧w.cell? ⟨b,4,none⟩=some c4∧w.cell? ⟨b,5,none⟩=some c5∧w.cell? ⟨b,6,none⟩=some c6∧w.cell? ⟨b,7,none⟩=some c7∧w.cell? ⟨b,8,none⟩=some c8∧w.frozen? ⟨b,0,none⟩=false∧w.frozen? ⟨b,1,none⟩=false∧w.frozen? ⟨b,2,none⟩=false∧w.frozen? ⟨b,3,none⟩=false∧w.frozen? ⟨b,4,none⟩=false∧w.frozen? ⟨b,5,none⟩=false∧w.frozen? ⟨b,6,none⟩=false∧w.frozen? ⟨b,7,none⟩=false∧w.frozen? ⟨b,8,none⟩=false:=
  ⟨h_lt h,cell_of_heap h 0,cell_of_heap h 1,cell_of_heap h 2,cell_of_heap h 3,cell_of_heap h 4,cell_of_heap h 5,cell_of_heap h 6,cell_of_heap h 7,cell_of_heap h 8,frozen_of_heap h 0,frozen_of_heap h 1,frozen_of_heap h 2,frozen_of_heap h 3,frozen_of_heap h 4,frozen_of_heap h 5,frozen_of_heap h 6,frozen_of_heap h 7,frozen_of_heap h 8⟩
theorem cf11{w:World}{b:Nat}{T:TypeId}{c0 c1 c2 c3 c4 c5 c6 c7 c8 c9 c10:Value}(h:w.heap[b]? =some (.cells #[c0,c1,c2,c3,c4,c5,c6,c7,c8,c9,c10] T (0,0))):b<w.heap.size∧w.cell? ⟨b,0,none⟩=some c0∧w.cell? ⟨b,1,none⟩=some c1∧w.cell? ⟨b,2,none⟩=some c2∧w.cell? ⟨b,3,none⟩=some c3∧w.cell? ⟨b,4,none⟩=some c4∧w.cell? ⟨b,5,none⟩=some c5∧w.cell? ⟨b,6,none⟩=some c6∧w.cell? ⟨b,7,none⟩=some c7∧w.cell? ⟨b,8,none⟩=some c8∧w.cell? ⟨b,9,none⟩=some c9∧w.cell? ⟨b,10,none⟩=some c10∧w.frozen? ⟨b,0,none⟩=false∧w.frozen? ⟨b,1,none⟩=false∧w.frozen? ⟨b,2,none⟩=false∧w.frozen? ⟨b,3,none⟩=false∧w.frozen? ⟨b,4,none⟩=false∧w.frozen? ⟨b,5,none⟩=false∧w.frozen? ⟨b,6,none⟩=false∧w.frozen? ⟨b,7,none⟩=false∧w.frozen? ⟨b,8,none⟩=false∧w.frozen? ⟨b,9,none⟩=false∧w.frozen? ⟨b,10,none⟩=false:=
  ⟨h_lt h,cell_of_heap h 0,cell_of_heap h 1,cell_of_heap h 2,cell_of_heap h 3,cell_of_heap h 4,cell_of_heap h 5,cell_of_heap h 6,cell_of_heap h 7,cell_of_heap h 8,cell_of_heap h 9,cell_of_heap h 10,frozen_of_heap h 0,frozen_of_heap h 1,frozen_of_heap h 2,frozen_of_heap h 3,frozen_of_heap h 4,frozen_of_heap h 5,frozen_of_heap h 6,frozen_of_heap h 7,frozen_of_heap h 8,frozen_of_heap h 9,frozen_of_heap h 10⟩
theorem k0(fp:List Nat)(w:World):Keeps fp w w:=Keeps.refl _ _
theorem kA{fp:List Nat}{w W:World}(h:Keeps fp w W)(o:Obj):Keeps fp w (W.alloc o):=keep_alloc h o
theorem kD{fp:List Nat}{w W:World}(h:Keeps fp w W):Keeps fp w W.drew:=keep_drew h
theorem kS{fp:List Nat}{w W:World}(h:Keeps fp w W){b i:Nat}{u:Value}(hb:b∈fp∨w.heap.size≤b):Keeps fp w (W.setCell ⟨b,i,none⟩ u):=keep_set h hb
theorem kM{fp:List Nat}{w W:World}(h:Keeps fp w W){b:Nat}{o:Obj}(hb:b∈fp∨w.heap.size≤b):Keeps fp w (mset W b o):=
  h.trans (fp':= [b]) (Keeps.mset _ _ _ _ (by simp)) (by simpa using hb)
theorem hS(w:World)(b i k:Nat)(u:Value):(w.setCell ⟨b,i,none⟩ u).heap[k]? =if k=b then (w.heap[k]?).map (fun o=>Obj.put o i u) else w.heap[k]? :=heap_set_if w b i k u
theorem hA(w:World)(o:Obj)(k:Nat):(w.alloc o).heap[k]? =if k=w.heap.size then some o else w.heap[k]? :=heap_alloc_if w o k
theorem hD(w:World)(k:Nat):w.drew.heap[k]? =w.heap[k]? :=rfl
theorem hM(w:World)(b k:Nat)(o:Obj):(mset w b o).heap[k]? =if k=b then (w.heap[k]?).map (fun _=>o) else w.heap[k]? :=by
  by_cases h:k=b
  · subst h
    rw [if_pos rfl]
    by_cases hk:k<w.heap.size
    · rw [heap_mset_eq hk];simp [hk]
    · rw [Array.getElem?_eq_none (by simp [mset];omega),Array.getElem?_eq_none (by omega)];rfl
  · rw [if_neg h,heap_mset_ne h]

/-! ### nodes in a stretch of blocks -/
def Seg(a b:Nat):Nat→Prop:=fun g=>a≤g∧g<b
mutual
theorem NodeR.segS{w:World}{S:Nat→Prop}{n:Node}{v:Value}(h:NodeR w S n v):NodeR w (fun g=>S g∧g<w.heap.size) n v:=by
  cases h with
  |mk h=>exact .mk (KidsR.segS h)
theorem KidsR.segS{w:World}{S:Nat→Prop}{ns:List Node}{v:Value}(h:KidsR w S ns v):KidsR w (fun g=>S g∧g<w.heap.size) ns v:=by
  cases h with
  |nil=>exact .nil
  |some hS hg h=>exact .some ⟨hS,hg⟩ hg (RowR.segS h)
theorem RowR.segS{w:World}{S:Nat→Prop}{g o:Nat}{ns:List Node}(h:RowR w S g o ns):RowR w (fun g=>S g∧g<w.heap.size) g o ns:=by
  cases h with
  |nil=>exact .nil
  |cons hn h0 h1 h2 h3 h4 hr=>exact .cons (NodeR.segS hn) h0 h1 h2 h3 h4 (RowR.segS hr)
end
theorem NodeR.seg{w:World}{a:Nat}{n:Node}{v:Value}(h:NodeR w (fun g=>a≤g) n v):NodeR w (Seg a w.heap.size) n v:=h.segS
theorem KidsR.seg{w:World}{a:Nat}{n:List Node}{v:Value}(h:KidsR w (fun g=>a≤g) n v):KidsR w (Seg a w.heap.size) n v:=h.segS
theorem NodeR.kp{w w':World}{S:Nat→Prop}{fp:List Nat}{n:Node}{v:Value}(h:NodeR w S n v)(hk:Keeps fp w w')(hf:∀x∈fp,¬S x):NodeR w' S n v:=h.keep hk hf fun _ h=>h
theorem KidsR.kp{w w':World}{S:Nat→Prop}{fp:List Nat}{n:List Node}{v:Value}(h:KidsR w S n v)(hk:Keeps fp w w')(hf:∀x∈fp,¬S x):KidsR w' S n v:=h.keep hk hf fun _ h=>h
theorem NodeR.to{w:World}{S T:Nat→Prop}{n:Node}{v:Value}(h:NodeR w S n v)(hT:∀x,S x→T x):NodeR w T n v:=h.keep (Keeps.refl [] w) (by simp) hT
theorem KidsR.to{w:World}{S T:Nat→Prop}{n:List Node}{v:Value}(h:KidsR w S n v)(hT:∀x,S x→T x):KidsR w T n v:=h.keep (Keeps.refl [] w) (by simp) hT
theorem row1{w:World}{S T:Nat→Prop}{n:Node}{c0 c1 c2 c3 c4:Value}{g:Nat}{f:Nat×Nat}(h:NodeR w S n (.agg #[c0,c1,c2,c3,c4]))(hT:∀x,S x→T x)(hr:w.heap[g]? =some (.cells #[c0,c1,c2,c3,c4] 58 f)):RowR w T g 0 [n]:=
  .cons (h.to hT) (by rw [cell_of_heap hr];rfl) (by rw [cell_of_heap hr];rfl) (by rw [cell_of_heap hr];rfl) (by rw [cell_of_heap hr];rfl) (by rw [cell_of_heap hr];rfl) .nil
theorem row2{w:World}{S S' T:Nat→Prop}{n m:Node}{c0 c1 c2 c3 c4 d0 d1 d2 d3 d4:Value}{g:Nat}{f:Nat×Nat}(h:NodeR w S n (.agg #[c0,c1,c2,c3,c4]))(hT:∀x,S x→T x)(h':NodeR w S' m (.agg #[d0,d1,d2,d3,d4]))(hT':∀x,S' x→T x)
    (hr:w.heap[g]? =some (.cells #[c0,c1,c2,c3,c4,d0,d1,d2,d3,d4] 58 f)):RowR w T g 0 [n,m]:=
  .cons (h.to hT) (by rw [cell_of_heap hr];rfl) (by rw [cell_of_heap hr];rfl) (by rw [cell_of_heap hr];rfl) (by rw [cell_of_heap hr];rfl) (by rw [cell_of_heap hr];rfl)
    (.cons (h'.to hT') (by rw [cell_of_heap hr];rfl) (by rw [cell_of_heap hr];rfl) (by rw [cell_of_heap hr];rfl) (by rw [cell_of_heap hr];rfl) (by rw [cell_of_heap hr];rfl) .nil)

/-- The parser, some of its cells stored into. -/
theorem PP.upd{s:ByteArray}{p:Nat}{st st':PSt}{W W':World}{fp:List Nat}(h:PP s p st W)(hk:Keeps fp W W')(hf:∀x∈fp,13<x)(hr:W'.heap[p]? =some (parC s st'))(hl:st'.pos≤s.size)(ho: -100≤st'.opn∧st'.opn≤40):PP s p st' W':=
  ⟨h.gl.keep hk hf,hr,h.p,h.size,hl,ho⟩

theorem hands_at{s:ByteArray}{p:Nat}{st st':PSt}{n:Node}{f:FuncId}{b:World}(h:Hands s p st st' n f)(hp:PP s p st b)(W:World)(hk:Keeps [] b W):
    Calls Tryz.prog f #[.pointer (some ⟨p,0,none⟩)] W fun r w'=>∃v,r= .returned v∧(NodeR w' (Seg b.heap.size w'.heap.size) n v∧PP s p st' w'∧Keeps [p] b w'):=
  (h W (hp.keep hk)).mono fun _ _ ⟨v,hr,hn,hp',hk'⟩=>⟨v,hr,(hn.to fun _ h=>Nat.le_trans hk.size h).seg,hp',(hk.weaken (by simp)).trans hk' (by simp)⟩
end Go.Proofs.YteafcepaolofpaaGreatDoor
end
section
/- post with a sign, walked. Made by a program (parse.py, walk.py). -/
namespace Go.Proofs.YteafcepaolofpaaGreatDoor
open Go.RowKit

theorem post_yes{s:ByteArray}{p:Nat}{st st':PSt}{n:Node}(hsub:Hands s p st st' n 265)(hl:lval n=true){t:Tok}(ht:nextF s st'.pos false=some t)(h9:t.kind=9)(ha:among ⟨#[43,43,32,45,45]⟩ t.text=true):
    Hands s p st ⟨t.to,st'.opn,st'.ng⟩ (.mk 18 t.text 0 [n] (placeOf s t.fr).1 (placeOf s t.fr).2) 264:=by
  intro w h
  have g_p:=h.p
  have HP0:=Lib.hid h;have HK0:=Lib.hid (Keeps.refl [p] w);have HS:=Lib.hid hsub;have HL:=Lib.hid hl;have HT:=Lib.hid ht;have H9:=Lib.hid h9;have HA:=Lib.hid ha
  clear h hsub hl ht h9 ha
  go_enter Tryz.func264,Tryz.ntmps264
  have l_p:=h_lt HP0.out.row
  go_wp2_with fail
  refine calls_at (fun W=>Keeps [] w W∧W.heap[w.heap.size]? =some (.cells #[.int .i64 0,.string ⟨#[]⟩,.float .f64 0,.slice none 0 0,.complex .f64 0 0] 58 (0,0))) ⟨(by with_reducible repeat (first|exact k0 _ _|refine kA ?_ _|refine kD ?_|refine kS ?_ (by simp)|refine kM ?_ (by simp))),(by simp only [hS,hA,hD,hM,World.size_setCell,World.size_drew,reduceIte,Option.map_some,Obj.put]<;>rfl)⟩ ?_
  rintro w1 ⟨Kw1,cw1_R⟩
  have n_p_R:p≠w.heap.size:=Nat.ne_of_lt l_p
  have n_R_p:w.heap.size≠p:=Nat.ne_of_gt l_p
  have o_R:w.heap.size≤w.heap.size:=Nat.le_refl _
  have g_R:13<w.heap.size:=Nat.lt_trans g_p l_p
  have HKw1:=Lib.hid (HK0.out.trans Kw1 (by simp))
  have HPw1:=Lib.hid (HP0.out.keep Kw1)
  have Rw1_R:=Lib.hid cw1_R
  clear Kw1 cw1_R l_p HK0 HP0
  refine (HS.out _ HPw1.out).mono ?_
  rintro r e2 ⟨v,rfl,hn,hp,hk⟩
  have Re2_R:=Lib.hid (hk.at Rw1_R.out (by simp [n_R_p]))
  have HKe2:=Lib.hid (HKw1.out.trans hk (by simp))
  have HPne2:=Lib.hid hp
  have ne2:=Lib.hid hn.seg
  have o_n:w.heap.size≤w1.heap.size:=HKw1.out.size
  have ns_n_p:¬(Seg w1.heap.size e2.heap.size) (p):=fun h=>Nat.not_lt_of_le h.1 (h_lt HPw1.out.row)
  have ns_n_R:¬(Seg w1.heap.size e2.heap.size) (w.heap.size):=fun h=>Nat.not_lt_of_le h.1 (h_lt Rw1_R.out)
  have up_n:∀g,(Seg w1.heap.size e2.heap.size) g→g<e2.heap.size:=fun _ h=>h.2
  have dn_n:∀g,(Seg w1.heap.size e2.heap.size) g→w.heap.size≤g:=fun _ h=>Nat.le_trans o_n h.1
  obtain ⟨nt,nm,na,nl,nc,nr,ni,rfl,-,-⟩:=hn.shape
  clear hn hp
  clear hk Rw1_R HKw1 HPw1
  have l_p:=h_lt HPne2.out.row
  have l_R:=h_lt Re2_R.out
  go_wp2_with fail
  refine calls_at (fun W=>Keeps [] e2 W∧W.heap[e2.heap.size]? =some (.cells #[.int .i64 n.kind,.string nt,.float .f64 nm,.slice na nl nc,.complex .f64 nr ni] 58 (0,0))) ⟨(by with_reducible repeat (first|exact k0 _ _|refine kA ?_ _|refine kD ?_|refine kS ?_ (by simp)|refine kM ?_ (by simp))),(by simp only [hS,hA,hD,hM,World.size_setCell,World.size_drew,reduceIte,Option.map_some,Obj.put]<;>rfl)⟩ ?_
  rintro w3 ⟨Kw3,cw3_B⟩
  have n_p_B:p≠e2.heap.size:=Nat.ne_of_lt l_p
  have n_B_p:e2.heap.size≠p:=Nat.ne_of_gt l_p
  have n_R_B:w.heap.size≠e2.heap.size:=Nat.ne_of_lt l_R
  have n_B_R:e2.heap.size≠w.heap.size:=Nat.ne_of_gt l_R
  have o_B:w.heap.size≤e2.heap.size:=HKe2.out.size
  have g_B:13<e2.heap.size:=Nat.lt_trans g_p l_p
  have ns_n_B:¬(Seg w1.heap.size e2.heap.size) (e2.heap.size):=fun h=>Nat.not_lt_of_le ((Nat.le_refl e2.heap.size)) (up_n _ h)
  have Rw3_R:=Lib.hid (Kw3.at Re2_R.out (by simp))
  have HKw3:=Lib.hid (HKe2.out.trans Kw3 (by simp))
  have HPw3:=Lib.hid (HPne2.out.keep Kw3)
  have nw3:=Lib.hid (ne2.out.kp Kw3 (by simp))
  have us_nw3:=Nat.le_trans (Nat.le_refl e2.heap.size) Kw3.size
  have Rw3_B:=Lib.hid cw3_B
  clear Kw3 cw3_B l_p l_R Re2_R HKe2 HPne2 ne2
  refine (ok_any HPw3.out).mono ?_
  rintro r w' ⟨rfl,hw'⟩
  rw [hw']
  clear hw'
  have l_p:=h_lt HPw3.out.row
  have l_R:=h_lt Rw3_R.out
  obtain ⟨l_B,xB_0,xB_1,xB_2,xB_3,xB_4,yB_0,yB_1,yB_2,yB_3,yB_4⟩:=cf5 Rw3_B.out
  go_wp2_with fail
  clear l_p l_R l_B xB_0 xB_1 xB_2 xB_3 xB_4 yB_0 yB_1 yB_2 yB_3 yB_4
  refine (lvalue_any nw3.out).mono ?_
  rintro r e4 ⟨rfl,hk⟩
  have Re4_R:=Lib.hid (hk.at Rw3_R.out (by simp))
  have Re4_B:=Lib.hid (hk.at Rw3_B.out (by simp))
  have HKe4:=Lib.hid (HKw3.out.trans hk (by simp))
  have HPe4:=Lib.hid (HPw3.out.keep hk)
  have ne4:=Lib.hid (nw3.out.kp hk (by simp))
  have us_ne4:=Nat.le_trans us_nw3 hk.size
  clear hk Rw3_R Rw3_B HKw3 HPw3 nw3 us_nw3
  have l_p:=h_lt HPe4.out.row
  have l_R:=h_lt Re4_R.out
  have l_B:=h_lt Re4_B.out
  rw [HL.out]
  go_wp2_with fail
  clear l_p l_R l_B
  refine (one_yes HPe4.out HT.out ⟨#[43,43,32,45,45]⟩ (by decide) H9.out HA.out).mono ?_
  rintro r e5 ⟨rfl,hp,hk⟩
  have Re5_R:=Lib.hid (hk.at Re4_R.out (by simp [n_R_p]))
  have Re5_B:=Lib.hid (hk.at Re4_B.out (by simp [n_B_p]))
  have HKe5:=Lib.hid (HKe4.out.trans hk (by simp))
  have ne5:=Lib.hid (ne4.out.kp hk (by simp [ns_n_p]))
  have us_ne5:=Nat.le_trans us_ne4 hk.size
  have HPne5:=Lib.hid hp
  clear hp
  clear hk Re4_R Re4_B HKe4 ne4 us_ne4 HPe4
  have l_p:=h_lt HPne5.out.row
  obtain ⟨l_R,xR_0,xR_1,xR_2,xR_3,xR_4,yR_0,yR_1,yR_2,yR_3,yR_4⟩:=cf5 Re5_R.out
  obtain ⟨l_B,xB_0,xB_1,xB_2,xB_3,xB_4,yB_0,yB_1,yB_2,yB_3,yB_4⟩:=cf5 Re5_B.out
  go_wp2_with fail
  refine ret_at (v:= .agg #[.int .i64 18,.string t.text,.float .f64 0,.slice (some ⟨e5.heap.size,0,none⟩) 1 1,.complex .f64 (placeOf s t.fr).1 (placeOf s t.fr).2]) (fun W=>Keeps [w.heap.size] e5 W∧W.heap[w.heap.size]? =some (.cells #[.int .i64 18,.string t.text,.float .f64 0,.slice (some ⟨e5.heap.size,0,none⟩) 1 1,.complex .f64 (placeOf s t.fr).1 (placeOf s t.fr).2] 58 (0,0))∧W.heap[e5.heap.size]? =some (.cells #[.int .i64 n.kind,.string nt,.float .f64 nm,.slice na nl nc,.complex .f64 nr ni] 58 (0,0))) ⟨(by with_reducible repeat (first|exact k0 _ _|refine kA ?_ _|refine kD ?_|refine kS ?_ (by simp)|refine kM ?_ (by simp))),(by simp only [hS,hA,hD,hM,World.size_setCell,World.size_drew,reduceIte,Option.map_some,Obj.put,Re5_R.out,Nat.ne_of_lt l_R,Nat.ne_of_gt l_R]<;>rfl),(by simp only [hS,hA,hD,hM,World.size_setCell,World.size_drew,reduceIte,Option.map_some,Obj.put,Re5_R.out,Nat.ne_of_lt l_R,Nat.ne_of_gt l_R]<;>rfl)⟩ (fun w6 hW=> ?_) rfl (fun w6 hW=> ?_)
  · obtain ⟨Kw6,cw6_R,cw6_G⟩:=hW
    have q0:=cell_of_heap cw6_R 0
    have q1:=cell_of_heap cw6_R 1
    have q2:=cell_of_heap cw6_R 2
    have q3:=cell_of_heap cw6_R 3
    have q4:=cell_of_heap cw6_R 4
    simp at q0 q1 q2 q3 q4
    simp [results,Tryz.results264,go_sem,q0,q1,q2,q3,q4]
  · obtain ⟨Kw6,cw6_R,cw6_G⟩:=hW
    have n_p_G:p≠e5.heap.size:=Nat.ne_of_lt l_p
    have n_G_p:e5.heap.size≠p:=Nat.ne_of_gt l_p
    have n_R_G:w.heap.size≠e5.heap.size:=Nat.ne_of_lt l_R
    have n_G_R:e5.heap.size≠w.heap.size:=Nat.ne_of_gt l_R
    have n_B_G:e2.heap.size≠e5.heap.size:=Nat.ne_of_lt l_B
    have n_G_B:e5.heap.size≠e2.heap.size:=Nat.ne_of_gt l_B
    have o_G:w.heap.size≤e5.heap.size:=HKe5.out.size
    have g_G:13<e5.heap.size:=Nat.lt_trans g_p l_p
    have ns_n_G:¬(Seg w1.heap.size e2.heap.size) (e5.heap.size):=fun h=>Nat.not_lt_of_le (us_ne5) (up_n _ h)
    have Rw6_B:=Lib.hid (Kw6.at Re5_B.out (by simp [n_B_R]))
    have HKw6:=Lib.hid (HKe5.out.trans Kw6 (by simp [o_R]))
    have HPw6:=Lib.hid (HPne5.out.keepN Kw6 (by simp [n_p_R]) (by simp [g_R]))
    have nw6:=Lib.hid (ne5.out.kp Kw6 (by simp [ns_n_R]))
    have us_nw6:=Nat.le_trans us_ne5 Kw6.size
    have Rw6_R:=Lib.hid cw6_R
    have Rw6_G:=Lib.hid cw6_G
    clear Kw6 cw6_R cw6_G l_p l_R xR_0 xR_1 xR_2 xR_3 xR_4 yR_0 yR_1 yR_2 yR_3 yR_4 l_B xB_0 xB_1 xB_2 xB_3 xB_4 yB_0 yB_1 yB_2 yB_3 yB_4 Re5_B HKe5 HPne5 ne5 us_ne5 Re5_R
    exact ⟨_,rfl,.mk (.some (Nat.le_of_lt_succ (Nat.lt_succ_of_le o_G)) (h_lt Rw6_G.out) (row1 nw6.out dn_n Rw6_G.out)),HPw6.out,HKw6.out⟩
end Go.Proofs.YteafcepaolofpaaGreatDoor
end
section
/- expr with a sign, walked. Made by a program (parse.py, walk.py). -/
namespace Go.Proofs.YteafcepaolofpaaGreatDoor
open Go.RowKit

theorem expr_yes{s:ByteArray}{p:Nat}{st st' st2:PSt}{n m:Node}(hsub:Hands s p st st' n 156)(hl:lval n=true){t:Tok}(ht:nextF s st'.pos false=some t)(h9:t.kind=9)(ha:among ⟨#[61,32,43,61,32,45,61,32,42,61,32,47,61,32,37,61,32,94,61]⟩ t.text=true)(hr:Hands s p ⟨t.to,st'.opn,st'.ng⟩ st2 m 130):
    Hands s p st st2 (.mk 7 t.text 0 [n,m] (placeOf s t.fr).1 (placeOf s t.fr).2) 130:=by
  intro w h
  have g_p:=h.p
  have HP0:=Lib.hid h;have HK0:=Lib.hid (Keeps.refl [p] w);have HS:=Lib.hid hsub;have HL:=Lib.hid hl;have HT:=Lib.hid ht;have H9:=Lib.hid h9;have HA:=Lib.hid ha;have HR:=Lib.hid hr
  clear h hsub hl ht h9 ha hr
  go_enter Tryz.func130,Tryz.ntmps130
  have l_p:=h_lt HP0.out.row
  go_wp2_with fail
  refine calls_at (fun W=>Keeps [] w W∧W.heap[w.heap.size]? =some (.cells #[.int .i64 0,.string ⟨#[]⟩,.float .f64 0,.slice none 0 0,.complex .f64 0 0] 58 (0,0))) ⟨(by with_reducible repeat (first|exact k0 _ _|refine kA ?_ _|refine kD ?_|refine kS ?_ (by simp)|refine kM ?_ (by simp))),(by simp only [hS,hA,hD,hM,World.size_setCell,World.size_drew,reduceIte,Option.map_some,Obj.put]<;>rfl)⟩ ?_
  rintro w1 ⟨Kw1,cw1_R⟩
  have n_p_R:p≠w.heap.size:=Nat.ne_of_lt l_p
  have n_R_p:w.heap.size≠p:=Nat.ne_of_gt l_p
  have o_R:w.heap.size≤w.heap.size:=Nat.le_refl _
  have g_R:13<w.heap.size:=Nat.lt_trans g_p l_p
  have HKw1:=Lib.hid (HK0.out.trans Kw1 (by simp))
  have HPw1:=Lib.hid (HP0.out.keep Kw1)
  have Rw1_R:=Lib.hid cw1_R
  clear Kw1 cw1_R l_p HK0 HP0
  refine (HS.out _ HPw1.out).mono ?_
  rintro r e2 ⟨v,rfl,hn,hp,hk⟩
  have Re2_R:=Lib.hid (hk.at Rw1_R.out (by simp [n_R_p]))
  have HKe2:=Lib.hid (HKw1.out.trans hk (by simp))
  have HPne2:=Lib.hid hp
  have ne2:=Lib.hid hn.seg
  have o_n:w.heap.size≤w1.heap.size:=HKw1.out.size
  have ns_n_p:¬(Seg w1.heap.size e2.heap.size) (p):=fun h=>Nat.not_lt_of_le h.1 (h_lt HPw1.out.row)
  have ns_n_R:¬(Seg w1.heap.size e2.heap.size) (w.heap.size):=fun h=>Nat.not_lt_of_le h.1 (h_lt Rw1_R.out)
  have up_n:∀g,(Seg w1.heap.size e2.heap.size) g→g<e2.heap.size:=fun _ h=>h.2
  have dn_n:∀g,(Seg w1.heap.size e2.heap.size) g→w.heap.size≤g:=fun _ h=>Nat.le_trans o_n h.1
  obtain ⟨nt,nm,na,nl,nc,nr,ni,rfl,-,-⟩:=hn.shape
  clear hn hp
  clear hk Rw1_R HKw1 HPw1
  have l_p:=h_lt HPne2.out.row
  have l_R:=h_lt Re2_R.out
  go_wp2_with fail
  refine calls_at (fun W=>Keeps [] e2 W∧W.heap[e2.heap.size]? =some (.cells #[.int .i64 n.kind,.string nt,.float .f64 nm,.slice na nl nc,.complex .f64 nr ni] 58 (0,0))) ⟨(by with_reducible repeat (first|exact k0 _ _|refine kA ?_ _|refine kD ?_|refine kS ?_ (by simp)|refine kM ?_ (by simp))),(by simp only [hS,hA,hD,hM,World.size_setCell,World.size_drew,reduceIte,Option.map_some,Obj.put]<;>rfl)⟩ ?_
  rintro w3 ⟨Kw3,cw3_B⟩
  have n_p_B:p≠e2.heap.size:=Nat.ne_of_lt l_p
  have n_B_p:e2.heap.size≠p:=Nat.ne_of_gt l_p
  have n_R_B:w.heap.size≠e2.heap.size:=Nat.ne_of_lt l_R
  have n_B_R:e2.heap.size≠w.heap.size:=Nat.ne_of_gt l_R
  have o_B:w.heap.size≤e2.heap.size:=HKe2.out.size
  have g_B:13<e2.heap.size:=Nat.lt_trans g_p l_p
  have ns_n_B:¬(Seg w1.heap.size e2.heap.size) (e2.heap.size):=fun h=>Nat.not_lt_of_le ((Nat.le_refl e2.heap.size)) (up_n _ h)
  have Rw3_R:=Lib.hid (Kw3.at Re2_R.out (by simp))
  have HKw3:=Lib.hid (HKe2.out.trans Kw3 (by simp))
  have HPw3:=Lib.hid (HPne2.out.keep Kw3)
  have nw3:=Lib.hid (ne2.out.kp Kw3 (by simp))
  have us_nw3:=Nat.le_trans (Nat.le_refl e2.heap.size) Kw3.size
  have Rw3_B:=Lib.hid cw3_B
  clear Kw3 cw3_B l_p l_R Re2_R HKe2 HPne2 ne2
  refine (ok_any HPw3.out).mono ?_
  rintro r w' ⟨rfl,hw'⟩
  rw [hw']
  clear hw'
  have l_p:=h_lt HPw3.out.row
  have l_R:=h_lt Rw3_R.out
  obtain ⟨l_B,xB_0,xB_1,xB_2,xB_3,xB_4,yB_0,yB_1,yB_2,yB_3,yB_4⟩:=cf5 Rw3_B.out
  go_wp2_with fail
  clear l_p l_R l_B xB_0 xB_1 xB_2 xB_3 xB_4 yB_0 yB_1 yB_2 yB_3 yB_4
  refine (lvalue_any nw3.out).mono ?_
  rintro r e4 ⟨rfl,hk⟩
  have Re4_R:=Lib.hid (hk.at Rw3_R.out (by simp))
  have Re4_B:=Lib.hid (hk.at Rw3_B.out (by simp))
  have HKe4:=Lib.hid (HKw3.out.trans hk (by simp))
  have HPe4:=Lib.hid (HPw3.out.keep hk)
  have ne4:=Lib.hid (nw3.out.kp hk (by simp))
  have us_ne4:=Nat.le_trans us_nw3 hk.size
  clear hk Rw3_R Rw3_B HKw3 HPw3 nw3 us_nw3
  have l_p:=h_lt HPe4.out.row
  have l_R:=h_lt Re4_R.out
  have l_B:=h_lt Re4_B.out
  rw [HL.out]
  go_wp2_with fail
  clear l_p l_R l_B
  refine (one_yes HPe4.out HT.out ⟨#[61,32,43,61,32,45,61,32,42,61,32,47,61,32,37,61,32,94,61]⟩ (by decide) H9.out HA.out).mono ?_
  rintro r e5 ⟨rfl,hp,hk⟩
  have Re5_R:=Lib.hid (hk.at Re4_R.out (by simp [n_R_p]))
  have Re5_B:=Lib.hid (hk.at Re4_B.out (by simp [n_B_p]))
  have HKe5:=Lib.hid (HKe4.out.trans hk (by simp))
  have ne5:=Lib.hid (ne4.out.kp hk (by simp [ns_n_p]))
  have us_ne5:=Nat.le_trans us_ne4 hk.size
  have HPne5:=Lib.hid hp
  clear hp
  clear hk Re4_R Re4_B HKe4 ne4 us_ne4 HPe4
  have l_p:=h_lt HPne5.out.row
  obtain ⟨l_R,xR_0,xR_1,xR_2,xR_3,xR_4,yR_0,yR_1,yR_2,yR_3,yR_4⟩:=cf5 Re5_R.out
  obtain ⟨l_B,xB_0,xB_1,xB_2,xB_3,xB_4,yB_0,yB_1,yB_2,yB_3,yB_4⟩:=cf5 Re5_B.out
  go_upto_region 7 with fail
  have HCm:=Lib.hid (hands_at HR.out HPne5.out)
  go_upto_region 7 with fail
  go_cut [] (fun W=>∃(u_:World) (mt:ByteArray) (mm:Nat) (ma:Option Addr) (ml mc mr mi:Nat),NodeR u_ (Seg e5.heap.size u_.heap.size) m (.agg #[.int .i64 m.kind,.string mt,.float .f64 mm,.slice ma ml mc,.complex .f64 mr mi])∧PP s p ⟨st2.pos,st2.opn,st2.ng⟩ u_∧Keeps [p] e5 u_∧Keeps [w.heap.size] u_ W∧W.heap[w.heap.size]? =some (.cells #[.int .i64 7,.string t.text,.float .f64 0,.slice (some ⟨u_.heap.size,0,none⟩) 2 2,.complex .f64 (placeOf s t.fr).1 (placeOf s t.fr).2] 58 (0,0))∧W.heap[u_.heap.size]? =some (.cells #[.int .i64 n.kind,.string nt,.float .f64 nm,.slice na nl nc,.complex .f64 nr ni,.int .i64 m.kind,.string mt,.float .f64 mm,.slice ma ml mc,.complex .f64 mr mi] 58 (0,0)))
  case first=>
    go_region_law ((refine step_call (f:=130) (vals:= #[.pointer (some ⟨p,0,none⟩)]) rfl _ rfl (by kernel_rfl) (HCm.out _ (by with_reducible repeat (first|exact k0 _ _|refine kA ?_ _|refine kD ?_|refine kS ?_ (by simp)|refine kM ?_ (by simp)))) ?_;rintro v u_ ⟨hn,hp,hk⟩;obtain ⟨mt,mm,ma,ml,mc,mr,mi,rfl,-,-⟩:=hn.shape;have r_R:=hk.at Re5_R.out (by simp [n_R_p]);have l_R:=h_lt r_R;have zR_0:=cell_of_heap r_R 0;have zfR_0:=frozen_of_heap r_R 0;have zR_1:=cell_of_heap r_R 1;have zfR_1:=frozen_of_heap r_R 1;have zR_2:=cell_of_heap r_R 2;have zfR_2:=frozen_of_heap r_R 2;have zR_3:=cell_of_heap r_R 3;have zfR_3:=frozen_of_heap r_R 3;have zR_4:=cell_of_heap r_R 4;have zfR_4:=frozen_of_heap r_R 4;simp at zR_0 zR_1 zR_2 zR_3 zR_4;have r_B:=hk.at Re5_B.out (by simp [n_B_p]);have l_B:=h_lt r_B;have zB_0:=cell_of_heap r_B 0;have zfB_0:=frozen_of_heap r_B 0;have zB_1:=cell_of_heap r_B 1;have zfB_1:=frozen_of_heap r_B 1;have zB_2:=cell_of_heap r_B 2;have zfB_2:=frozen_of_heap r_B 2;have zB_3:=cell_of_heap r_B 3;have zfB_3:=frozen_of_heap r_B 3;have zB_4:=cell_of_heap r_B 4;have zfB_4:=frozen_of_heap r_B 4;simp at zB_0 zB_1 zB_2 zB_3 zB_4))
    all_goals
      go_wp2_with fail
      go_meet
      case rel=>exact ⟨u_,mt,mm,ma,ml,mc,mr,mi,hn,hp,hk,(by with_reducible repeat (first|exact k0 _ _|refine kA ?_ _|refine kD ?_|refine kS ?_ (by simp)|refine kM ?_ (by simp))),(by simp only [hS,hA,hD,hM,World.size_setCell,World.size_drew,reduceIte,Option.map_some,Obj.put,r_R,Nat.ne_of_lt l_R,Nat.ne_of_gt l_R]<;>rfl),(by simp only [hS,hA,hD,hM,World.size_setCell,World.size_drew,reduceIte,Option.map_some,Obj.put,r_R,Nat.ne_of_lt l_R,Nat.ne_of_gt l_R]<;>rfl)⟩
  case rest=>
    clear l_p l_R xR_0 xR_1 xR_2 xR_3 xR_4 yR_0 yR_1 yR_2 yR_3 yR_4 l_B xB_0 xB_1 xB_2 xB_3 xB_4 yB_0 yB_1 yB_2 yB_3 yB_4
    obtain ⟨e6,mt,mm,ma,ml,mc,mr,mi,hn,hp,hk,Kw7,cc_R,cc_G⟩:=hcut
    have Re6_R:=Lib.hid (hk.at Re5_R.out (by simp [n_R_p]))
    have Re6_B:=Lib.hid (hk.at Re5_B.out (by simp [n_B_p]))
    have HKe6:=Lib.hid (HKe5.out.trans hk (by simp))
    have ne6:=Lib.hid (ne5.out.kp hk (by simp [ns_n_p]))
    have us_ne6:=Nat.le_trans us_ne5 hk.size
    have HPne6:=Lib.hid hp
    have me6:=Lib.hid hn
    have o_m:w.heap.size≤e5.heap.size:=HKe5.out.size
    have ns_m_p:¬(Seg e5.heap.size e6.heap.size) (p):=fun h=>Nat.not_lt_of_le h.1 (h_lt HPne5.out.row)
    have ns_m_R:¬(Seg e5.heap.size e6.heap.size) (w.heap.size):=fun h=>Nat.not_lt_of_le h.1 (h_lt Re5_R.out)
    have ns_m_B:¬(Seg e5.heap.size e6.heap.size) (e2.heap.size):=fun h=>Nat.not_lt_of_le h.1 (h_lt Re5_B.out)
    have up_m:∀g,(Seg e5.heap.size e6.heap.size) g→g<e6.heap.size:=fun _ h=>h.2
    have dn_m:∀g,(Seg e5.heap.size e6.heap.size) g→w.heap.size≤g:=fun _ h=>Nat.le_trans o_m h.1
    clear hn hp
    clear hk Re5_R Re5_B HKe5 ne5 us_ne5 HPne5
    have l_p:=h_lt HPne6.out.row
    have l_R:=h_lt Re6_R.out
    have l_B:=h_lt Re6_B.out
    generalize wc=w7 at*
    have cw7_R:=cc_R
    clear cc_R
    have cw7_G:=cc_G
    clear cc_G
    have n_p_G:p≠e6.heap.size:=Nat.ne_of_lt l_p
    have n_G_p:e6.heap.size≠p:=Nat.ne_of_gt l_p
    have n_R_G:w.heap.size≠e6.heap.size:=Nat.ne_of_lt l_R
    have n_G_R:e6.heap.size≠w.heap.size:=Nat.ne_of_gt l_R
    have n_B_G:e2.heap.size≠e6.heap.size:=Nat.ne_of_lt l_B
    have n_G_B:e6.heap.size≠e2.heap.size:=Nat.ne_of_gt l_B
    have o_G:w.heap.size≤e6.heap.size:=HKe6.out.size
    have g_G:13<e6.heap.size:=Nat.lt_trans g_p l_p
    have ns_n_G:¬(Seg w1.heap.size e2.heap.size) (e6.heap.size):=fun h=>Nat.not_lt_of_le (us_ne6) (up_n _ h)
    have ns_m_G:¬(Seg e5.heap.size e6.heap.size) (e6.heap.size):=fun h=>Nat.not_lt_of_le ((Nat.le_refl e6.heap.size)) (up_m _ h)
    have Rw7_B:=Lib.hid (Kw7.at Re6_B.out (by simp [n_B_R]))
    have HKw7:=Lib.hid (HKe6.out.trans Kw7 (by simp [o_R]))
    have HPw7:=Lib.hid (HPne6.out.keepN Kw7 (by simp [n_p_R]) (by simp [g_R]))
    have nw7:=Lib.hid (ne6.out.kp Kw7 (by simp [ns_n_R]))
    have us_nw7:=Nat.le_trans us_ne6 Kw7.size
    have mw7:=Lib.hid (me6.out.kp Kw7 (by simp [ns_m_R]))
    have us_mw7:=Nat.le_trans (Nat.le_refl e6.heap.size) Kw7.size
    have Rw7_R:=Lib.hid cw7_R
    have Rw7_G:=Lib.hid cw7_G
    clear Kw7 cw7_R cw7_G l_p l_R l_B Re6_B HKe6 HPne6 ne6 us_ne6 me6 Re6_R
    have l_p:=h_lt HPw7.out.row
    obtain ⟨l_R,xR_0,xR_1,xR_2,xR_3,xR_4,yR_0,yR_1,yR_2,yR_3,yR_4⟩:=cf5 Rw7_R.out
    have l_B:=h_lt Rw7_B.out
    have l_G:=h_lt Rw7_G.out
    go_wp2_with fail
    refine ret_at (v:= .agg #[.int .i64 7,.string t.text,.float .f64 0,.slice (some ⟨e6.heap.size,0,none⟩) 2 2,.complex .f64 (placeOf s t.fr).1 (placeOf s t.fr).2]) (fun W=>Keeps [] w7 W) (by with_reducible repeat (first|exact k0 _ _|refine kA ?_ _|refine kD ?_|refine kS ?_ (by simp)|refine kM ?_ (by simp))) (fun w8 hW=> ?_) rfl (fun w8 hW=> ?_)
    · have Kw8:Keeps [] w7 w8:=hW
      have q0:=cell_of_heap (Kw8.at Rw7_R.out (by simp)) 0
      have q1:=cell_of_heap (Kw8.at Rw7_R.out (by simp)) 1
      have q2:=cell_of_heap (Kw8.at Rw7_R.out (by simp)) 2
      have q3:=cell_of_heap (Kw8.at Rw7_R.out (by simp)) 3
      have q4:=cell_of_heap (Kw8.at Rw7_R.out (by simp)) 4
      simp at q0 q1 q2 q3 q4
      simp [results,Tryz.results130,go_sem,q0,q1,q2,q3,q4]
    · have Kw8:Keeps [] w7 w8:=hW
      have Rw8_R:=Lib.hid (Kw8.at Rw7_R.out (by simp))
      have Rw8_B:=Lib.hid (Kw8.at Rw7_B.out (by simp))
      have Rw8_G:=Lib.hid (Kw8.at Rw7_G.out (by simp))
      have HKw8:=Lib.hid (HKw7.out.trans Kw8 (by simp))
      have HPw8:=Lib.hid (HPw7.out.keep Kw8)
      have nw8:=Lib.hid (nw7.out.kp Kw8 (by simp))
      have us_nw8:=Nat.le_trans us_nw7 Kw8.size
      have mw8:=Lib.hid (mw7.out.kp Kw8 (by simp))
      have us_mw8:=Nat.le_trans us_mw7 Kw8.size
      clear Kw8 l_p l_R xR_0 xR_1 xR_2 xR_3 xR_4 yR_0 yR_1 yR_2 yR_3 yR_4 l_B l_G Rw7_R Rw7_B Rw7_G HKw7 HPw7 nw7 us_nw7 mw7 us_mw7
      exact ⟨_,rfl,.mk (.some (S:=fun g=>w.heap.size≤g) o_G (h_lt Rw8_G.out) (row2 nw8.out dn_n mw8.out dn_m Rw8_G.out)),HPw8.out,HKw8.out⟩
end Go.Proofs.YteafcepaolofpaaGreatDoor
end
