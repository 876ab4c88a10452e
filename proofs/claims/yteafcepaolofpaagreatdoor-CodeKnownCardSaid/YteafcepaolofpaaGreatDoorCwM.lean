/- Texts of this claim, joined: CwD, CwE, CwF, CwG, CwH, CwI, CwJ, CwL, CwM. -/
import Derived.Test.YteafcepaolofpaaGreatDoorCwC
import Derived.Test.YteafcepaolofpaaGreatDoorSortL
set_option maxRecDepth 100000
set_option maxHeartbeats 4000000
set_option linter.unusedSimpArgs false
set_option linter.unusedVariables false
set_option linter.unusedSectionVars false
section
/- The writer: Specials, scalar. -/
namespace Go.Proofs.YteafcepaolofpaaGreatDoor
open Go.RowKit
theorem str_elems(W:World)(S:Nat→Prop):∀l:List ByteArray,Elems (StrE W S) l (l.map fun s=>Value.string s)
  | []=> .nil
  |s::l=>Elems.cons (c:= [.string s]) (E:=StrE W S) rfl (str_elems W S l)
theorem str_row{W:World}{S:Nat→Prop}{P:Nat}{l:List ByteArray}{c:Array Value}(hc:c=(l.map fun s=>Value.string s).toArray)(h:W.heap[P]? =some (.cells c 9 (0,0)))(hS:S P):SliceR StrE W S l (.slice (some ⟨P,0,none⟩) l.length l.length):=by
  refine ⟨_,_,rfl,Nat.le_refl _,fun _=>⟨P,0,l.map fun s=>Value.string s,rfl,hS,h_lt h,str_elems W S l,fun j u hj=> ?_⟩⟩
  rw [Nat.zero_add,cell_of_heap h,hc];simpa using hj
theorem wspecials_any(w:World):Calls Tryz.prog 8 #[] w fun r w'=>r= .returned (.slice (some ⟨w.heap.size,0,none⟩) specials.length specials.length)∧SliceR StrE w' (fun _=>True) specials (.slice (some ⟨w.heap.size,0,none⟩) specials.length specials.length)∧Keeps [] w w':=by
  go_enter Tryz.func8,Tryz.ntmps8
  go_wp2_with fail
  refine ret_at (v:= .slice (some ⟨w.heap.size,0,none⟩) specials.length specials.length) (fun W=>Keeps [] w W∧W.heap[w.heap.size]? =some (.cells (specials.map fun s=>Value.string s).toArray 9 (0,0))) ⟨kps,cel⟩ (fun w1 hW=>by simp [results,Tryz.results8,go_sem,specials]) rfl (fun w1 hW=>⟨rfl,str_row rfl hW.2 trivial,hW.1⟩)
theorem wscalar_any{K:WKey}(hK:WFix K){oa:Option Addr}{oc:Nat}{o:Out}{lv:Value}{w:World}(h:CW K oa oc o lv w)(s:ByteArray):
    Calls Tryz.prog 33 #[.pointer (some ⟨K.c,0,none⟩),.string s] w fun r w'=>r= .returned (.tuple #[.int .i64 (scalarC K.E s).1,.int .i64 (scalarC K.E s).2])∧Keeps [] w w':=by
  have HC:=Lib.hid h
  clear h
  go_enter Tryz.func33,Tryz.ntmps33
  go_wp2_with fail
  refine (wparam_any hK HC.out s).mono ?_
  rintro r W ⟨rfl,hk⟩
  have HK1:=Lib.hid hk
  have HC1:=Lib.hid (HC.out.kp0 hk)
  clear hk
  by_cases hp:0≤paramC K.E s
  · obtain ⟨n,hn⟩:=par_pos hp
    rw [hn]
    have HV:=Lib.hid (show scalarC K.E s=((n:Int),1) from by unfold scalarC;rw [if_pos hp,hn])
    have hge:decide ((0:Int)≤(n:Int))=true:=by simp
    clear hp hn
    go_wp2_with fail
    refine ret_at (v:= .tuple #[.int .i64 n,.int .i64 1]) (fun V=>V=W) rfl (fun w1 hW=>by simp [results,Tryz.results33,go_sem]) rfl (fun w1 hW=>⟨by rw [HV.out],by rw [hW];exact HK1.out⟩)
  · rw [par_neg hp]
    have HPN:=Lib.hid hp
    clear hp
    go_wp2_with fail
    refine (wspecials_any W).mono ?_
    rintro r W2 ⟨rfl,hs2,hk2⟩
    have HS2:=Lib.hid hs2
    have HK2:=Lib.hid (HK1.out.trans (fp':= []) hk2 (by simp))
    have HC2:=Lib.hid (HC1.out.kp0 hk2)
    clear hs2 hk2 HK1 HC1
    generalize hsl:(some ⟨W.heap.size,0,none⟩:Option Addr)=sl at*
    clear hsl
    obtain ⟨L,hL⟩:∃L,specials=L:=⟨_,rfl⟩
    have HL13:=Lib.hid (show L.length=13 from by rw [←hL];rfl)
    have HSC:=Lib.hid (show scalarC K.E s=if placeL L s<13 then ((placeL L s:Int),2) else ((placeL K.E.info.scalars s:Int),0) from by unfold scalarC;rw [if_neg (by have:=HPN.out;omega),hL])
    rw [hL] at HS2⊢
    clear hL HPN
    go_wp2_with fail
    go_loopg [17] (L.length+1) (fun g j wr=>PlI s L W2 (placeL L s) g j wr)
    case atStart=>exact ⟨0,rfl,Nat.zero_le _,rfl,by simp,rfl⟩
    case round=>
      obtain ⟨k,rfl,hk1,hk2,hm,rfl⟩:=hrel
      by_cases hlt:k<L.length
      · obtain ⟨g2,o2,rfl,d0⟩:=strAt (Keeps.refl [] wr) HS2.out hlt
        rw [List.drop_eq_getElem_cons hlt,placeL] at hm
        generalize L[k]=q at*
        have hlm:L.length≤1000000:=by rw [HL13.out];omega
        by_cases heq:same q s=true
        · rw [if_pos heq] at hm
          have heb:(q.toList==s.toList)=true:=by rw [same_eq];exact heq
          have HV:=Lib.hid (show scalarC K.E s=((k:Int),2) from by rw [HSC.out,if_pos (by have:=HL13.out;omega),←hm];simp)
          clear hm heq
          go_wp2_with fail
          refine ret_at (v:= .tuple #[.int .i64 k,.int .i64 2]) (fun W=>W=wr) rfl (fun w1 hW=>by simp [results,Tryz.results33,go_sem]) rfl (fun w1 hW=>⟨by rw [HV.out],by rw [hW];exact HK2.out⟩)
        · rw [if_neg heq] at hm
          simp only [Bool.not_eq_true] at heq
          have heb:(q.toList==s.toList)=false:=by rw [same_eq];exact heq
          have HM:=Lib.hid (show k+1+placeL (L.drop (k+1)) s=placeL L s from by omega)
          clear hm heq
          cases gk with
          |zero=>omega
          | succ f=>
            go_wp2_with fail
            go_roundg f
            case measure=>omega
            case rel=>exact ⟨k+1,by first|rfl|(simp;done)|(simp;omega),by omega,by omega,HM.out,rfl⟩
      · have hke:k=L.length:=by omega
        subst hke
        rw [List.drop_length,placeL] at hm
        have HV:=Lib.hid (show scalarC K.E s=((placeL K.E.info.scalars s:Int),0) from by rw [HSC.out,if_neg (by have:=HL13.out;omega)])
        have c2:=cell_of_heap HC2.out.row 2;have y2:=frozen_of_heap HC2.out.row 2
        simp at c2
        clear hm
        go_wp2_with fail
        refine (wplace_any HC2.out.keep hK.scal hK.ssmall s).mono ?_
        rintro r W3 ⟨rfl,rfl⟩
        go_wp2_with fail
        refine ret_at (v:= .tuple #[.int .i64 (placeL K.E.info.scalars s),.int .i64 0]) (fun V=>V=W3) rfl (fun w1 hW=>by simp [results,Tryz.results33,go_sem]) rfl (fun w1 hW=>⟨by rw [HV.out],by rw [hW];exact HK2.out⟩)
end Go.Proofs.YteafcepaolofpaaGreatDoor
end
section
/- The writer: rows of expressions. -/
namespace Go.Proofs.YteafcepaolofpaaGreatDoor
open Go.RowKit
theorem NodeR.full{w:World}{S:Nat→Prop}{n:Node}{v:Value}(h:NodeR w S n v):∃na nc,v= .agg #[.int .i64 n.kind,.string n.name,.float .f64 n.num,.slice na n.kids.length nc,.complex .f64 n.re n.im]∧KidsR w S n.kids (.slice na n.kids.length nc):=by
  cases h with
  | mk hk=>
    obtain ⟨a,cap,rfl⟩:=hk.shape
    exact ⟨_,_,rfl,hk⟩
/-- A kid, in whatever world behind. -/
theorem kidAt{w0 W:World}(h:Keeps [] w0 W){kids:List Node}{a:Option Addr}{cap:Nat}(hs:KidsR w0 (fun _=>True) kids (.slice a kids.length cap)){i:Nat}(hi:i<kids.length):
    ∃ g o na nc,a=some ⟨g,o,none⟩∧(W.cell? ⟨g,o+i*5,none⟩=some (.int .i64 kids[i].kind)∧W.cell? ⟨g,o+i*5+1,none⟩=some (.string kids[i].name)∧W.cell? ⟨g,o+i*5+2,none⟩=some (.float .f64 kids[i].num)∧W.cell? ⟨g,o+i*5+3,none⟩=some (.slice na kids[i].kids.length nc)∧W.cell? ⟨g,o+i*5+4,none⟩=some (.complex .f64 kids[i].re kids[i].im))∧
      NodeR w0 (fun _=>True) kids[i] (.agg #[.int .i64 kids[i].kind,.string kids[i].name,.float .f64 kids[i].num,.slice na kids[i].kids.length nc,.complex .f64 kids[i].re kids[i].im]):=by
  have key:∃g o,a=some ⟨g,o,none⟩∧g<w0.heap.size∧RowR w0 (fun _=>True) g o kids:=by
    generalize hv:Value.slice a kids.length cap=v at hs
    cases hs with
    |nil=>simp at hi
    |some hS hg hr=>injection hv with e1;exact ⟨_,_,e1,hg,hr⟩
  obtain ⟨g,o,rfl,hg,hr⟩:=key
  obtain ⟨c0,c1,c2,c3,c4,h0,h1,h2,h3,h4,hn⟩:=hr.get hi
  obtain ⟨na,nc,hv,hk⟩:=hn.full
  simp only [Value.agg.injEq,Array.mk.injEq,List.cons.injEq,and_true] at hv
  obtain ⟨rfl,rfl,rfl,rfl,rfl⟩:=hv
  have hc:∀j u,w0.cell? ⟨g,j,none⟩=some u→W.cell? ⟨g,j,none⟩=some u:=fun j u hj=>by
    rw [World.cell?_of_block (w:=w0) (a:=⟨g,j,none⟩) (h.block g hg (by simp))];exact hj
  exact ⟨g,o,na,nc,rfl,⟨hc _ _ h0,hc _ _ h1,hc _ _ h2,hc _ _ h3,hc _ _ h4⟩,hn⟩
/-- The value is a row of these nodes, whatever the writer does; the nodes' kids are the program's. -/
def NRow(K:WKey)(w:World)(kids:List Node)(v:Value):Prop:=∃a cap,v= .slice a kids.length cap∧∀W,Keeps [] K.w0 W→WStep K w W→∀(i:Nat) (hi:i<kids.length),
    ∃ g o na nc,a=some ⟨g,o,none⟩∧(W.cell? ⟨g,o+i*5,none⟩=some (.int .i64 kids[i].kind)∧W.cell? ⟨g,o+i*5+1,none⟩=some (.string kids[i].name)∧W.cell? ⟨g,o+i*5+2,none⟩=some (.float .f64 kids[i].num)∧W.cell? ⟨g,o+i*5+3,none⟩=some (.slice na kids[i].kids.length nc)∧W.cell? ⟨g,o+i*5+4,none⟩=some (.complex .f64 kids[i].re kids[i].im))∧
      NodeR K.w0 (fun _=>True) kids[i] (.agg #[.int .i64 kids[i].kind,.string kids[i].name,.float .f64 kids[i].num,.slice na kids[i].kids.length nc,.complex .f64 kids[i].re kids[i].im])
theorem NRow.of{K:WKey}{w:World}{kids:List Node}{a:Option Addr}{cap:Nat}(h:KidsR K.w0 (fun _=>True) kids (.slice a kids.length cap)):NRow K w kids (.slice a kids.length cap):=⟨a,cap,rfl,fun _ hk _ _ hi=>kidAt hk h hi⟩
theorem NRow.nil{K:WKey}{w:World}{a:Option Addr}{cap:Nat}:NRow K w [] (.slice a 0 cap):=⟨a,cap,rfl,fun _ _ _ i hi=>absurd hi (by simp)⟩
theorem NRow.step{K:WKey}{w w':World}{kids:List Node}{v:Value}(h:NRow K w kids v)(hs:WStep K w w'):NRow K w' kids v:=by
  obtain ⟨a,cap,e,h⟩:=h
  exact ⟨a,cap,e,fun W hk hw=>h W hk (hs.trans hw)⟩
theorem NRow.one{K:WKey}{w:World}{n:Node}{na:Option Addr}{nc G:Nat}{f:Nat×Nat}(h:w.heap[G]? =some (.cells #[.int .i64 n.kind,.string n.name,.float .f64 n.num,.slice na n.kids.length nc,.complex .f64 n.re n.im] 58 f))(hn:NodeR K.w0 (fun _=>True) n (.agg #[.int .i64 n.kind,.string n.name,.float .f64 n.num,.slice na n.kids.length nc,.complex .f64 n.re n.im])):NRow K w [n] (.slice (some ⟨G,0,none⟩) 1 1):=
  ⟨_,1,rfl,fun W _ hs i hi=>by
    obtain rfl:i=0:=by simpa using hi
    have hW:=hs.at h (by simp)
    exact ⟨G,0,na,nc,rfl,⟨by simpa using cell_of_heap hW 0,by simpa using cell_of_heap hW 1,by simpa using cell_of_heap hW 2,by simpa using cell_of_heap hW 3,by simpa using cell_of_heap hW 4⟩,hn⟩⟩
/-- expr, as far as rec says. -/
def ExC(K:WKey)(rec:ERec):Prop:=∀(n:Node) (o o':Out),rec n o=some o'→∀v,NodeR K.w0 (fun _=>True) n v→∀(lv:Value) (oa:Option Addr) (oc:Nat) (W:World),CW K oa oc o lv W→Calls Tryz.prog 15 #[.pointer (some ⟨K.c,0,none⟩),v] W fun r w'=>WP K o' lv W r w'
def ExI(K:WKey)(rec:ERec)(kids:List Node)(o':Out)(lv:Value)(w:World)(g:Nat)(j:Value)(wr:World):Prop:=
  ∃k:Nat,j= .int .i64 k∧k≤kids.length∧kids.length+1=g+k∧∃o,exprsC rec (kids.drop k) o=some o'∧WAt K w o lv wr
theorem wexprs_any{K:WKey}{rec:ERec}(hr:ExC K rec){oa:Option Addr}{oc:Nat}{o o':Out}{lv:Value}{w:World}(h:CW K oa oc o lv w){kids:List Node}{v:Value}(hk:NRow K w kids v)(hl:kids.length≤1000000)(hx:exprsC rec kids o=some o'):
    Calls Tryz.prog 42 #[.pointer (some ⟨K.c,0,none⟩),v] w fun r w'=>WP K o' lv w r w':=by
  have HB:=Lib.hid (WAt.start h)
  obtain ⟨na,nc,rfl,hk⟩:=hk
  have HR:=Lib.hid hr;have HKD:=Lib.hid hk;have HX:=Lib.hid hx
  clear h hr hk hx
  go_enter Tryz.func42,Tryz.ntmps42
  go_wp2_with fail
  go_loopg [8] (kids.length+1) (fun g j wr=>ExI K rec kids o' lv w g j wr)
  case atStart=>exact ⟨0,rfl,Nat.zero_le _,rfl,_,HX.out,HB.out⟩
  case round=>
    obtain ⟨k,rfl,hk1,hk2,o1,hx,hb⟩:=hrel
    clear HB HX
    have HB:=Lib.hid hb
    by_cases hlt:k<kids.length
    · obtain ⟨g2,o2,na2,nc2,rfl,hd,hn⟩:=HKD.out wr (hb.cw.elim fun _ h=>h.elim fun _ h=>h.keep) hb.st k hlt
      have HN:=Lib.hid hn
      rw [List.drop_eq_getElem_cons hlt,exprsC] at hx
      simp only [Option.bind_eq_bind,Option.bind_eq_some_iff] at hx
      obtain ⟨o3,h3,hx⟩:=hx
      generalize kids[k]=q at*
      have H3:=Lib.hid h3;have HX:=Lib.hid hx
      clear h3 hx hb hn
      cases gk with
      |zero=>omega
      | succ f=>
        go_wp2_with fail
        refine HB.out.call (fun h=>HR.out _ _ _ H3.out _ HN.out _ _ _ _ h) ?_
        clear HB hd
        intro W' hb
        have HB:=Lib.hid hb
        clear hb
        go_wp2_with fail
        go_roundg f
        case measure=>omega
        case rel=>exact ⟨k+1,by first|rfl|(simp;done)|(simp;omega),by omega,by omega,_,HX.out,HB.out⟩
    · have hke:k=kids.length:=by omega
      subst hke
      rw [List.drop_length,exprsC] at hx
      obtain rfl:=Option.some.inj hx
      clear hx hb
      go_wp2_with fail
      go_end0
      exact HB.out.fin
end Go.Proofs.YteafcepaolofpaaGreatDoor
end
section
/- The writer: key, regex, kid. -/
namespace Go.Proofs.YteafcepaolofpaaGreatDoor
open Go.RowKit
theorem wkey_any{K:WKey}(hK:WFix K){rec:ERec}(hr:ExC K rec){oa:Option Addr}{oc:Nat}{o o':Out}{lv:Value}{w:World}(h:CW K oa oc o lv w){kids:List Node}{na:Option Addr}{nc:Nat}(hk:KidsR K.w0 (fun _=>True) kids (.slice na kids.length nc))(hl:kids.length≤1000000)(hx:keyC rec kids o=some o'):
    Calls Tryz.prog 34 #[.pointer (some ⟨K.c,0,none⟩),.slice na kids.length nc] w fun r w'=>WP K o' lv w r w':=by
  unfold keyC at hx
  simp only [Option.bind_eq_bind,Option.bind_eq_some_iff] at hx
  obtain ⟨om,hx,hq⟩:=hx
  have HB:=Lib.hid (WAt.start h)
  have HR:=Lib.hid hr;have HKD:=Lib.hid hk;have HX:=Lib.hid hx;have HQ:=Lib.hid hq
  clear h hr hk hx hq
  go_enter Tryz.func34,Tryz.ntmps34
  go_wp2_with fail
  go_loopg [8] (kids.length+1) (fun g j wr=>ExI K rec kids om lv w g j wr)
  case atStart=>exact ⟨0,rfl,Nat.zero_le _,rfl,_,HX.out,HB.out⟩
  case round=>
    obtain ⟨k,rfl,hk1,hk2,o1,hx,hb⟩:=hrel
    clear HB HX
    have HB:=Lib.hid hb
    by_cases hlt:k<kids.length
    · obtain ⟨g2,o2,na2,nc2,rfl,hd,hn⟩:=kidAt (hb.cw.elim fun _ h=>h.elim fun _ h=>h.keep) HKD.out hlt
      have HN:=Lib.hid hn
      rw [List.drop_eq_getElem_cons hlt,exprsC] at hx
      simp only [Option.bind_eq_bind,Option.bind_eq_some_iff] at hx
      obtain ⟨o3,h3,hx⟩:=hx
      generalize kids[k]=q at*
      have H3:=Lib.hid h3;have HX:=Lib.hid hx
      clear h3 hx hb hn
      cases gk with
      |zero=>omega
      | succ f=>
        go_wp2_with fail
        refine HB.out.call (fun h=>HR.out _ _ _ H3.out _ HN.out _ _ _ _ h) ?_
        clear HB hd
        intro W' hb
        have HB:=Lib.hid hb
        clear hb
        go_wp2_with fail
        go_roundg f
        case measure=>omega
        case rel=>exact ⟨k+1,by first|rfl|(simp;done)|(simp;omega),by omega,by omega,_,HX.out,HB.out⟩
    · have hke:k=kids.length:=by omega
      subst hke
      rw [List.drop_length,exprsC] at hx
      obtain rfl:=Option.some.inj hx
      clear hx hb
      have hq:=HQ.out
      clear HQ
      by_cases h1:kids.length=1
      · rw [if_pos h1] at hq
        obtain rfl:=Option.some.inj hq
        have he:((kids.length:Int) !=1)=false:=by simp [h1]
        clear hq h1
        go_wp2_with fail
        go_end0
        exact HB.out.fin
      · rw [if_neg h1] at hq
        have HQ:=Lib.hid hq
        have he:((kids.length:Int) !=1)=true:=by simp;omega
        clear hq h1
        go_wp2_with fail
        refine HB.out.put (x:=⟨16,kids.length,0,nul,0⟩) hK HQ.out ?_
        clear HB
        intro W' hb
        have HB:=Lib.hid hb
        clear hb
        go_wp2_with fail
        go_end0
        exact HB.out.fin
end Go.Proofs.YteafcepaolofpaaGreatDoor
end
section
/- The writer: kid, store. -/
namespace Go.Proofs.YteafcepaolofpaaGreatDoor
open Go.RowKit
theorem wkid_any{w0 w:World}(hk:Keeps [] w0 w){n:Node}{v:Value}(hn:NodeR w0 (fun _=>True) n v)(hl:n.kids.length≤1000000)(i:Nat)(hi:i≤10):
    Calls Tryz.prog 36 #[v,.int .i64 i] w fun r w'=>∃u,r= .returned u∧NodeR w0 (fun _=>True) (kidL n.kids i) u∧Keeps [] w w':=by
  obtain ⟨na,nc,rfl,hkd⟩:=hn.full
  by_cases hlt:i<n.kids.length
  · obtain ⟨g2,o2,na2,nc2,rfl,hd,hn2⟩:=kidAt hk hkd hlt
    have HN:=Lib.hid (show NodeR w0 (fun _=>True) (kidL n.kids i) (.agg #[.int .i64 n.kids[i].kind,.string n.kids[i].name,.float .f64 n.kids[i].num,.slice na2 n.kids[i].kids.length nc2,.complex .f64 n.kids[i].re n.kids[i].im]) from by
      rw [show kidL n.kids i=n.kids[i] from by unfold kidL;simp [hlt]];exact hn2)
    generalize n.kids[i]=q at*
    have lg2:g2<w.heap.size:=lt_cell hd.1
    have he:decide ((n.kids.length:Int)≤i)=false:=by simp;omega
    clear hn hkd hn2
    go_enter Tryz.func36,Tryz.ntmps36
    go_wp2_with ((with_reducible show wpList _ _ _ (Oper.mk none (.store 58 _ _) _ _ _ _::_) _ _);refine stT 58 (w.heap.size+1) 0 #[.int .i64 0,.string ⟨#[]⟩,.float .f64 0,.slice none 0 0,.complex .f64 0 0] cel rfl (.agg #[.int .i64 q.kind,.string q.name,.float .f64 q.num,.slice na2 q.kids.length nc2,.complex .f64 q.re q.im]) rfl (by kernel_rfl) (by simp [Value.cells]) (by simp [Value.cells,Value.oneCell']) ?_)
    intro w2 hs2
    have k2:Keeps [] w w2:=Keeps.trans (fp':= [w.heap.size+1]) (by with_reducible repeat (first|exact k0 _ _|refine kA ?_ _|refine kD ?_|refine kS ?_ (by simp)|refine kM ?_ (by simp))) hs2.keeps (by simp)
    have hr2:=hs2.row
    clear hs2
    go_wp2_with fail
    refine ret_at (v:= .agg #[.int .i64 q.kind,.string q.name,.float .f64 q.num,.slice na2 q.kids.length nc2,.complex .f64 q.re q.im]) (fun W=>W=w2) rfl (fun w1 hW=>by
      subst hW
      have x0:=cell_of_heap hr2 0
      have x1:=cell_of_heap hr2 1
      have x2:=cell_of_heap hr2 2
      have x3:=cell_of_heap hr2 3
      have x4:=cell_of_heap hr2 4
      simp [Value.cells] at x0 x1 x2 x3 x4
      simp [results,Tryz.results36,go_sem,x0,x1,x2,x3,x4]) rfl (fun w1 hW=>⟨_,rfl,HN.out,by rw [hW];exact k2⟩)
  · have HN:=Lib.hid (show NodeR w0 (fun _=>True) (kidL n.kids i) (.agg #[.int .i64 0,.string ⟨#[]⟩,.float .f64 0,.slice none 0 0,.complex .f64 0 0]) from by
      rw [show kidL n.kids i=noneN from by unfold kidL;rw [List.getD_eq_getElem?_getD,List.getElem?_eq_none (by omega)];rfl];exact .mk .nil)
    have he:decide ((n.kids.length:Int)≤i)=true:=by simp;omega
    clear hn hkd
    go_enter Tryz.func36,Tryz.ntmps36
    go_wp2_with fail
    refine ret_at (v:= .agg #[.int .i64 0,.string ⟨#[]⟩,.float .f64 0,.slice none 0 0,.complex .f64 0 0]) (fun W=>Keeps [] w W∧W.heap[w.heap.size+1]? =some (.cells #[.int .i64 0,.string ⟨#[]⟩,.float .f64 0,.slice none 0 0,.complex .f64 0 0] 58 (0,0))) ⟨kps,cel⟩ (fun w1 hW=>by
      have x0:=cell_of_heap hW.2 0
      have x1:=cell_of_heap hW.2 1
      have x2:=cell_of_heap hW.2 2
      have x3:=cell_of_heap hW.2 3
      have x4:=cell_of_heap hW.2 4
      simp at x0 x1 x2 x3 x4
      simp [results,Tryz.results36,go_sem,x0,x1,x2,x3,x4]) rfl (fun w1 hW=>⟨_,rfl,HN.out,hW.1⟩)
end Go.Proofs.YteafcepaolofpaaGreatDoor
end
section
/- The writer: store. -/
namespace Go.Proofs.YteafcepaolofpaaGreatDoor
open Go.RowKit
theorem WAt.callL{K:WKey}{w W V:World}{o o':Out}{lv:Value}{R:Ending→World→Prop}{f:FuncId}{args:Array Value}(h:WAt K w o lv W)(hc:∀{oa oc},CW K oa oc o lv V→WStep K w V→Calls Tryz.prog f args V fun r w'=>WP K o' lv V r w')(q:∀W',WAt K w o' lv W'→WStep K V W'→R (.returned (.tuple #[])) W')(hk:Keeps [] W V:=by with_reducible repeat (first|exact k0 _ _|refine kA ?_ _|refine kD ?_|refine kS ?_ (by simp)|refine kM ?_ (by simp))):Calls Tryz.prog f args V R:=by
  obtain ⟨⟨oa,oc,h1⟩,h2⟩:=h.kp hk
  exact (hc h1 h2).mono fun r W' ⟨e,hc,hs⟩=>e▸q W' ⟨hc,h2.trans hs⟩ hs
theorem WAt.sc{K:WKey}(hK:WFix K){w W V:World}{o:Out}{lv:Value}{R:Ending→World→Prop}{s:ByteArray}(h:WAt K w o lv W)(q:∀W',WAt K w o lv W'→Keeps [] V W'→R (.returned (.tuple #[.int .i64 (scalarC K.E s).1,.int .i64 (scalarC K.E s).2])) W')(hk:Keeps [] W V:=by with_reducible repeat (first|exact k0 _ _|refine kA ?_ _|refine kD ?_|refine kS ?_ (by simp)|refine kM ?_ (by simp))):Calls Tryz.prog 33 #[.pointer (some ⟨K.c,0,none⟩),.string s] V R:=by
  have h':=h.kp hk
  have h1':=h'.cw
  obtain ⟨oa,oc,h1⟩:=h1'
  exact (wscalar_any hK h1 s).mono fun r W' ⟨e,hk2⟩=>e▸q W' (h'.kp hk2) hk2
theorem wstore_v{K:WKey}(hK:WFix K){rec:ERec}(hr:ExC K rec){oa:Option Addr}{oc:Nat}{o o':Out}{lv:Value}{w:World}(h:CW K oa oc o lv w){n:Node}{v:Value}(hn:NodeR K.w0 (fun _=>True) n v)(h4:n.kind=4)(s:ByteArray)(vi e f:Int){val:List Node}{vv:Value}(hv:NRow K w val vv)(hvl:val.length≤1000000)(hx:storeC K.E rec n s vi e f val o=some o'):
    Calls Tryz.prog 37 #[.pointer (some ⟨K.c,0,none⟩),v,.string s,.int .i64 vi,.int .i64 e,.int .i64 f,vv] w fun r w'=>WP K o' lv w r w':=by
  obtain ⟨na,nc,rfl,-⟩:=hn.full
  unfold storeC at hx
  rw [if_pos h4] at hx
  simp only [Option.bind_eq_bind,Option.bind_eq_some_iff] at hx
  obtain ⟨o1,h1,hx⟩:=hx
  have HB:=Lib.hid (WAt.start h)
  have HR:=Lib.hid hr;have HV:=Lib.hid hv;have H1:=Lib.hid h1;have HX:=Lib.hid hx
  have he:(n.kind==4)=true:=by simp [h4]
  obtain ⟨va,vc,rfl,-⟩:=hv
  clear h hr hn h1 hx h4
  go_enter Tryz.func37,Tryz.ntmps37
  go_wp2_with fail
  refine HB.out.callL (fun h hs=>wexprs_any HR.out h (HV.out.step hs) hvl H1.out) ?_
  clear HB
  intro W hb hs
  have HB:=Lib.hid hb
  have hbx:W.heap[w.heap.size]? =some (.cells #[.int .i64 n.kind,.string n.name,.float .f64 n.num,.slice na n.kids.length nc,.complex .f64 n.re n.im] 58 (0,0)):=hs.at (by simp only [hA,reduceIte]) (by simp)
  have x1:=cell_of_heap hbx 1
  have l1:=h_lt hbx
  simp at x1
  clear hb hs
  go_wp2_with fail
  refine HB.out.sc hK ?_
  clear HB
  intro W2 hb hk2
  have HB:=Lib.hid hb
  clear hb hk2 x1 l1 hbx
  go_wp2_with fail
  refine HB.out.put (x:=⟨vi,(scalarC K.E n.name).1,(scalarC K.E n.name).2,s,0⟩) hK HX.out ?_
  clear HB
  intro W3 hb
  have HB:=Lib.hid hb
  clear hb
  go_wp2_with fail
  go_end0
  exact HB.out.fin
theorem WAt.ar{K:WKey}(hK:WFix K){w W V:World}{o:Out}{lv:Value}{R:Ending→World→Prop}{s:ByteArray}(h:WAt K w o lv W)(q:∀W',WAt K w o lv W'→Keeps [] V W'→R (.returned (.tuple #[.int .i64 (arrayC K.E s).1,.int .i64 (arrayC K.E s).2])) W')(hk:Keeps [] W V:=by with_reducible repeat (first|exact k0 _ _|refine kA ?_ _|refine kD ?_|refine kS ?_ (by simp)|refine kM ?_ (by simp))):Calls Tryz.prog 35 #[.pointer (some ⟨K.c,0,none⟩),.string s] V R:=by
  have h':=h.kp hk
  have h1':=h'.cw
  obtain ⟨oa,oc,h1⟩:=h1'
  exact (warray_any hK h1 s).mono fun r W' ⟨e,hk2⟩=>e▸q W' (h'.kp hk2) hk2
theorem wstore_e{K:WKey}(hK:WFix K){rec:ERec}(hr:ExC K rec){oa:Option Addr}{oc:Nat}{o o':Out}{lv:Value}{w:World}(h:CW K oa oc o lv w){n:Node}{v:Value}(hn:NodeR K.w0 (fun _=>True) n v)(h5:n.kind=5)(hkl:n.kids.length≤1000000)(s:ByteArray)(vi e f:Int){val:List Node}{vv:Value}(hv:NRow K w val vv)(hvl:val.length≤1000000)(hx:storeC K.E rec n s vi e f val o=some o'):
    Calls Tryz.prog 37 #[.pointer (some ⟨K.c,0,none⟩),v,.string s,.int .i64 vi,.int .i64 e,.int .i64 f,vv] w fun r w'=>WP K o' lv w r w':=by
  obtain ⟨na,nc,rfl,hkd⟩:=hn.full
  unfold storeC at hx
  rw [if_neg (by omega),if_pos h5] at hx
  simp only [Option.bind_eq_bind,Option.bind_eq_some_iff] at hx
  obtain ⟨o1,h1,o2,h2,hx⟩:=hx
  have HB:=Lib.hid (WAt.start h)
  have HR:=Lib.hid hr;have HV:=Lib.hid hv;have H1:=Lib.hid h1;have H2:=Lib.hid h2;have HX:=Lib.hid hx;have HKD:=Lib.hid hkd
  have he:(n.kind==4)=false:=by simp [h5]
  have he5:(n.kind==5)=true:=by simp [h5]
  obtain ⟨va,vc,rfl,-⟩:=hv
  clear h hr hn h1 h2 hx h5 hkd
  go_enter Tryz.func37,Tryz.ntmps37
  go_wp2_with fail
  refine HB.out.callL (fun h hs=>wkey_any hK HR.out h HKD.out hkl H1.out) ?_
  clear HB
  intro W hb hs
  have HB:=Lib.hid hb
  have HBX:=Lib.hid (show W.heap[w.heap.size]? =some (.cells #[.int .i64 n.kind,.string n.name,.float .f64 n.num,.slice na n.kids.length nc,.complex .f64 n.re n.im] 58 (0,0)) from hs.at (by simp only [hA,reduceIte]) (by simp))
  clear hb hs
  go_wp2_with fail
  refine HB.out.callL (fun h hs=>wexprs_any HR.out h (HV.out.step hs) hvl H2.out) ?_
  clear HB
  intro W1 hb hs
  have HB:=Lib.hid hb
  have hbx:W1.heap[w.heap.size]? =some (.cells #[.int .i64 n.kind,.string n.name,.float .f64 n.num,.slice na n.kids.length nc,.complex .f64 n.re n.im] 58 (0,0)):=hs.at HBX.out (by simp)
  have x1:=cell_of_heap hbx 1
  have l1:=h_lt hbx
  simp at x1
  clear hb hs HBX
  go_wp2_with fail
  refine HB.out.ar hK ?_
  clear HB
  intro W2 hb hk2
  have HB:=Lib.hid hb
  clear hb hk2 x1 l1 hbx
  go_wp2_with fail
  refine HB.out.put (x:=⟨e,(arrayC K.E n.name).1,(arrayC K.E n.name).2,s,0⟩) hK HX.out ?_
  clear HB
  intro W3 hb
  have HB:=Lib.hid hb
  clear hb
  go_wp2_with fail
  go_end0
  exact HB.out.fin
theorem WAt.kd{K:WKey}{w W V:World}{o:Out}{lv:Value}{R:Ending→World→Prop}{n:Node}{v:Value}{i:Nat}(h:WAt K w o lv W)(hn:NodeR K.w0 (fun _=>True) n v)(hl:n.kids.length≤1000000)(hi:i≤10)(q:∀W' u,NodeR K.w0 (fun _=>True) (kidL n.kids i) u→WAt K w o lv W'→Keeps [] V W'→R (.returned u) W')(hk:Keeps [] W V:=by with_reducible repeat (first|exact k0 _ _|refine kA ?_ _|refine kD ?_|refine kS ?_ (by simp)|refine kM ?_ (by simp))):Calls Tryz.prog 36 #[v,.int .i64 i] V R:=by
  have h':=h.kp hk
  have h1':=h'.cw
  obtain ⟨oa,oc,h1⟩:=h1'
  exact (wkid_any h1.keep hn hl i hi).mono fun r W' ⟨u,e,hu,hk2⟩=>e▸q W' u hu (h'.kp hk2) hk2
theorem wstore_f{K:WKey}(hK:WFix K){rec:ERec}(hr:ExC K rec){oa:Option Addr}{oc:Nat}{o o':Out}{lv:Value}{w:World}(h:CW K oa oc o lv w){n:Node}{v:Value}(hn:NodeR K.w0 (fun _=>True) n v)(h4:n.kind≠4)(h5:n.kind≠5)(hkl:n.kids.length≤1000000)(s:ByteArray)(vi e f:Int){val:List Node}{vv:Value}(hv:NRow K w val vv)(hvl:val.length≤1000000)(hx:storeC K.E rec n s vi e f val o=some o'):
    Calls Tryz.prog 37 #[.pointer (some ⟨K.c,0,none⟩),v,.string s,.int .i64 vi,.int .i64 e,.int .i64 f,vv] w fun r w'=>WP K o' lv w r w':=by
  obtain ⟨na,nc,rfl,-⟩:=hn.full
  unfold storeC at hx
  rw [if_neg h4,if_neg h5] at hx
  simp only [Option.bind_eq_bind,Option.bind_eq_some_iff] at hx
  obtain ⟨o1,h1,o2,h2,hx⟩:=hx
  have HB:=Lib.hid (WAt.start h)
  have HR:=Lib.hid hr;have HV:=Lib.hid hv;have H1:=Lib.hid h1;have H2:=Lib.hid h2;have HX:=Lib.hid hx;have HN:=Lib.hid hn
  have he:(n.kind==4)=false:=beq_false_of_ne h4
  have he5:(n.kind==5)=false:=beq_false_of_ne h5
  obtain ⟨va,vc,rfl,-⟩:=hv
  clear h hr hn h1 h2 hx h5 h4
  go_enter Tryz.func37,Tryz.ntmps37
  go_wp2_with fail
  refine HB.out.kd (i:=0) HN.out hkl (by omega) ?_
  clear HB
  intro W u hu hb hk
  have HB:=Lib.hid hb
  obtain ⟨ua,uc,rfl,-⟩:=hu.full
  have HU:=Lib.hid hu
  clear hb hk hu
  go_wp2_with fail
  refine HB.out.call (fun h=>HR.out _ _ _ H1.out _ HU.out _ _ _ _ h) ?_
  clear HB
  intro W1 hb
  have HB:=Lib.hid hb
  clear hb
  go_wp2_with fail
  refine HB.out.callL (fun h hs=>wexprs_any HR.out h (HV.out.step hs) hvl H2.out) ?_
  clear HB
  intro W2 hb hs
  have HB:=Lib.hid hb
  clear hb hs
  go_wp2_with fail
  refine HB.out.put (x:=⟨f,0,0,s,0⟩) hK HX.out ?_
  clear HB
  intro W3 hb
  have HB:=Lib.hid hb
  clear hb
  go_wp2_with fail
  go_end0
  exact HB.out.fin
end Go.Proofs.YteafcepaolofpaaGreatDoor
end
section
/- The writer: expressions, kind by kind. -/
namespace Go.Proofs.YteafcepaolofpaaGreatDoor
open Go.RowKit
theorem wexpr_1{K:WKey}(hK:WFix K){oa:Option Addr}{oc:Nat}{o o':Out}{lv:Value}{w:World}(h:CW K oa oc o lv w)(nm:ByteArray)(num:Nat)(na:Option Addr)(nl nc re im:Nat)(hx:putC ⟨1,0,0,nul,num⟩ o=some o'):
    Calls Tryz.prog 15 #[.pointer (some ⟨K.c,0,none⟩),.agg #[.int .i64 1,.string nm,.float .f64 num,.slice na nl nc,.complex .f64 re im]] w fun r w'=>WP K o' lv w r w':=by
  have HB:=Lib.hid (WAt.start h)
  have HX:=Lib.hid hx
  clear h hx
  go_enter Tryz.func15,Tryz.ntmps15
  go_wp2_with fail
  refine HB.out.put (x:=⟨1,0,0,nul,num⟩) hK HX.out ?_
  clear HB
  intro W hb
  have HB:=Lib.hid hb
  clear hb
  go_wp2_with fail
  go_end0
  exact HB.out.fin
theorem wexpr_4{K:WKey}(hK:WFix K){oa:Option Addr}{oc:Nat}{o o':Out}{lv:Value}{w:World}(h:CW K oa oc o lv w)(nm:ByteArray)(num:Nat)(na:Option Addr)(nl nc re im:Nat)(hx:putC ⟨4,(scalarC K.E nm).1,(scalarC K.E nm).2,nul,0⟩ o=some o'):
    Calls Tryz.prog 15 #[.pointer (some ⟨K.c,0,none⟩),.agg #[.int .i64 4,.string nm,.float .f64 num,.slice na nl nc,.complex .f64 re im]] w fun r w'=>WP K o' lv w r w':=by
  have HB:=Lib.hid (WAt.start h)
  have HX:=Lib.hid hx
  clear h hx
  go_enter Tryz.func15,Tryz.ntmps15
  go_wp2_with fail
  refine HB.out.sc hK ?_
  clear HB
  intro W hb hk
  have HB:=Lib.hid hb
  clear hb hk
  go_wp2_with fail
  refine HB.out.put (x:=⟨4,(scalarC K.E nm).1,(scalarC K.E nm).2,nul,0⟩) hK HX.out ?_
  clear HB
  intro W hb
  have HB:=Lib.hid hb
  clear hb
  go_wp2_with fail
  go_end0
  exact HB.out.fin
theorem wexpr_3{K:WKey}(hK:WFix K){oa:Option Addr}{oc:Nat}{o o1 o2 o':Out}{lv:Value}{w:World}(h:CW K oa oc o lv w)(nm:ByteArray)(num:Nat)(na:Option Addr)(nl nc re im:Nat)(h1:recordC o=some o1)(h2:putC ⟨2,0,0,nm,0⟩ o1=some o2)(hx:putC ⟨23,0,0,tilde,0⟩ o2=some o'):
    Calls Tryz.prog 15 #[.pointer (some ⟨K.c,0,none⟩),.agg #[.int .i64 3,.string nm,.float .f64 num,.slice na nl nc,.complex .f64 re im]] w fun r w'=>WP K o' lv w r w':=by
  have HB:=Lib.hid (WAt.start h)
  have HX:=Lib.hid hx;have H1:=Lib.hid h1;have H2:=Lib.hid h2
  clear h hx h1 h2
  go_enter Tryz.func15,Tryz.ntmps15
  go_wp2_with fail
  refine HB.out.callL (fun h hs=>wrecord_any hK h H1.out) ?_
  clear HB
  intro W hb hs
  have HB:=Lib.hid hb
  have hbx:W.heap[w.heap.size]? =some (.cells #[.int .i64 3,.string nm,.float .f64 num,.slice na nl nc,.complex .f64 re im] 58 (0,0)):=hs.at (by simp only [hA,reduceIte]) (by simp)
  have x1:=cell_of_heap hbx 1
  have l1:=h_lt hbx
  simp at x1
  clear hb hs
  go_wp2_with fail
  refine HB.out.put (x:=⟨2,0,0,nm,0⟩) hK H2.out ?_
  clear HB x1 l1 hbx
  intro W2 hb
  have HB:=Lib.hid hb
  clear hb
  go_wp2_with fail
  refine HB.out.put (x:=⟨23,0,0,tilde,0⟩) hK HX.out ?_
  clear HB
  intro W3 hb
  have HB:=Lib.hid hb
  clear hb
  go_wp2_with fail
  go_end0
  exact HB.out.fin
end Go.Proofs.YteafcepaolofpaaGreatDoor
end
section
/- The writer: expressions of more kinds. Made by a program (cex.py). -/
namespace Go.Proofs.YteafcepaolofpaaGreatDoor
open Go.RowKit
theorem wexpr_6{K:WKey}(hK:WFix K){rec:ERec}(hr:ExC K rec){oa:Option Addr}{oc:Nat}{o o':Out}{lv:Value}{w:World}(h:CW K oa oc o lv w)(nm:ByteArray)(num:Nat){kids:List Node}{na:Option Addr}{nc:Nat}(re im:Nat)(hkd:KidsR K.w0 (fun _=>True) kids (.slice na kids.length nc))(hl:kids.length≤1000000)(hx:((rec (kidL kids 0) o).bind fun o=>putC ⟨12,0,0,nul,0⟩ o)=some o'):
    Calls Tryz.prog 15 #[.pointer (some ⟨K.c,0,none⟩),.agg #[.int .i64 6,.string nm,.float .f64 num,.slice na kids.length nc,.complex .f64 re im]] w fun r w'=>WP K o' lv w r w':=by
  simp only [Option.bind_eq_bind,Option.bind_eq_some_iff] at hx
  obtain ⟨o0,h1,hx⟩:=hx
  have HB:=Lib.hid (WAt.start h)
  have HN:=Lib.hid (show NodeR K.w0 (fun _=>True) (.mk 6 nm num kids re im) (.agg #[.int .i64 6,.string nm,.float .f64 num,.slice na kids.length nc,.complex .f64 re im]) from .mk hkd)
  have HR:=Lib.hid hr;have HKD:=Lib.hid hkd;have H1:=Lib.hid h1;have HX:=Lib.hid hx
  clear h hr hkd h1 hx
  go_enter Tryz.func15,Tryz.ntmps15
  go_wp2_with fail
  refine HB.out.kd (i:=0) HN.out hl (by omega) ?_
  clear HB
  intro W1 u hu hb hk
  have HB:=Lib.hid hb
  obtain ⟨ua,uc,rfl,-⟩:=hu.full
  have HU:=Lib.hid hu
  clear hu
  have HBX:=Lib.hid (show W1.heap[w.heap.size]? =some (.cells #[.int .i64 6,.string nm,.float .f64 num,.slice na kids.length nc,.complex .f64 re im] 58 (0,0)) from hk.at (by simp only [hA,reduceIte]) (by simp))
  have x0:=cell_of_heap HBX.out 0;have x1:=cell_of_heap HBX.out 1;have x2:=cell_of_heap HBX.out 2;have x3:=cell_of_heap HBX.out 3;have x4:=cell_of_heap HBX.out 4;have l1:=h_lt HBX.out
  simp at x0 x1 x2 x3 x4
  clear hb hk
  go_wp2_with fail
  refine HB.out.callL (fun h hs=>HR.out _ _ _ H1.out _ HU.out _ _ _ _ h) ?_
  clear HB x0 x1 x2 x3 x4 l1
  intro W2 hb hs
  have HB:=Lib.hid hb
  have HBX:=Lib.hid (show W2.heap[w.heap.size]? =some (.cells #[.int .i64 6,.string nm,.float .f64 num,.slice na kids.length nc,.complex .f64 re im] 58 (0,0)) from hs.at HBX.out (by simp))
  have x0:=cell_of_heap HBX.out 0;have x1:=cell_of_heap HBX.out 1;have x2:=cell_of_heap HBX.out 2;have x3:=cell_of_heap HBX.out 3;have x4:=cell_of_heap HBX.out 4;have l1:=h_lt HBX.out
  simp at x0 x1 x2 x3 x4
  clear hb hs
  go_wp2_with fail
  refine HB.out.put (x:=⟨12,0,0,nul,0⟩) hK HX.out ?_
  clear HB x0 x1 x2 x3 x4 l1
  intro W3 hb
  have HB:=Lib.hid hb
  clear hb
  go_wp2_with fail
  go_end0
  exact HB.out.fin
end Go.Proofs.YteafcepaolofpaaGreatDoor
end
section
/- The writer: a cell of its code is turned; land. -/
namespace Go.Proofs.YteafcepaolofpaaGreatDoor
open Go.RowKit
theorem modify_set{α:Type}{l:List α}{i:Nat}(h:i<l.length)(f:α→α):l.modify i f=l.set i (f l[i]):=by
  apply List.ext_getElem (by simp)
  intro k h1 h2
  rw [List.getElem_modify,List.getElem_set]
  split
  · rename_i e;subst e;rfl
  · rfl
section
variable {α:Type} {t:TypeId} {size:Nat} {enc:α→List Value}
theorem flat_set(hs:∀x,(enc x).length=size){x':α}{u:Value}{j:Nat}(hj:j<size):∀{l:List α} {i:Nat} (hi:i<l.length),enc x'=(enc l[i]).set j u→(l.set i x').flatMap enc=(l.flatMap enc).set (i*size+j) u
  | x::l,0,hi,h=>by
    have h':enc x'=(enc x).set j u:=h
    rw [List.set_cons_zero,List.flatMap_cons,List.flatMap_cons,List.set_append,if_pos (by rw [hs];omega),Nat.zero_mul,Nat.zero_add,h']
  | x::l,i+1,hi,h=>by
    rw [List.set_cons_succ,List.flatMap_cons,List.flatMap_cons,List.set_append,if_neg (by rw [hs,Nat.add_mul];omega),hs,show (i+1)*size+j -size=i*size+j from by rw [Nat.add_mul];omega,flat_set hs hj (l:=l) (by simpa using hi) (by simpa using h)]
theorem RowD.set(hs:∀x,(enc x).length=size){W:World}{b g cap:Nat}{l:List α}{i j:Nat}{u:Value}{x':α}(h:RowD t size enc W b l (some ⟨g,0,none⟩) cap)(hi:i<l.length)(hj:j<size)(he:enc x'=(enc l[i]).set j u):
    RowD t size enc (W.setCell ⟨g,i*size+j,none⟩ u) b (l.set i x') (some ⟨g,0,none⟩) cap∧b≤g∧∃c,W.heap[g]? =some (.cells c t (0,0)):=by
  obtain ⟨h0,h1⟩:=h
  rcases h1 with ⟨h1,-⟩|⟨g',cap',cur,h1,hb,hh,h3,h4,h5,h6⟩
  · simp at h1
  · simp only [Value.slice.injEq,Option.some.injEq,Addr.mk.injEq,and_true,true_and] at h1
    obtain ⟨rfl,rfl⟩:=h1
    have hf:=flat_set hs hj hi he
    refine ⟨⟨by rw [hf,List.length_set,List.length_set];exact h0,.inr ⟨g,cap,cur.setIfInBounds (i*size+j) u,by simp,hb, ?_,by simpa using h3,h4,by simpa using h5, ?_⟩⟩,hb,_,hh⟩
    · rw [hS,if_pos rfl,hh];rfl
    · rw [hf,←h6,List.length_set,Array.toList_setIfInBounds,List.take_set]
end
theorem CW.setA{K:WKey}{g oc j:Nat}{o:Out}{lv:Value}{W:World}(h:CW K (some ⟨g,0,none⟩) oc o lv W)(hK:WFix K)(hj:j<o.length)(tt:Int):
    CW K (some ⟨g,0,none⟩) oc (o.modify j fun x=>{x with a:=tt}) lv (W.setCell ⟨g,j*5+1,none⟩ (.int .i64 tt))∧WStep K W (W.setCell ⟨g,j*5+1,none⟩ (.int .i64 tt)):=by
  obtain ⟨hr,hb,c,hg⟩:=h.out.set (j:=1) (u:= .int .i64 tt) (x':={o[j] with a:=tt}) inL hj (by omega) rfl
  rw [modify_set hj]
  have hkg:Keeps [g] W (W.setCell ⟨g,j*5+1,none⟩ (.int .i64 tt)):=kS (k0 _ _) (by simp)
  have hne:K.c≠g:=fun e=>by have:=h.row;rw [e,hg] at this;simp at this
  have hrow:(W.setCell ⟨g,j*5+1,none⟩ (.int .i64 tt)).heap[K.c]? =W.heap[K.c]? :=hkg.block _ h.lt (by simpa using hne)
  have hcw:CW K (some ⟨g,0,none⟩) oc (o.set j {o[j] with a:=tt}) lv (W.setCell ⟨g,j*5+1,none⟩ (.int .i64 tt)):=
    ⟨keeps_set h.keep hb,by rw [hrow,h.row];unfold wC;rw [List.length_set],hr⟩
  refine ⟨hcw,KT.ofOne hkg hg (by simp),h.lt,fun k hk _ ho=>hkg.block k hk ?_,.inl (ownOf_eq hrow)⟩
  rw [h.ownE] at ho
  simp only [List.mem_singleton]
  intro e;subst e;exact ho rfl
theorem WAt.lt{K:WKey}{w W:World}{o:Out}{lv:Value}(h:WAt K w o lv W):K.c<W.heap.size:=by
  obtain ⟨⟨_,_,h1⟩,-⟩:=h;exact h1.lt
section
variable {K:WKey} {w W V:World} {o o':Out} {lv:Value} {R:Ending→World→Prop} {x:Ins}
theorem WAt.putL(h:WAt K w o lv W)(hK:WFix K)(hp:putC x o=some o')(q:∀W',WAt K w o' lv W'→WStep K W W'→R (.returned (.int .i64 o.length)) W')(hk:Keeps [] W V:=by with_reducible repeat (first|exact k0 _ _|refine kA ?_ _|refine kD ?_|refine kS ?_ (by simp)|refine kM ?_ (by simp))):
    Calls Tryz.prog 17 #[.pointer (some ⟨K.c,0,none⟩),.agg #[.int .i64 x.op,.int .i64 x.a,.int .i64 x.b,.string x.s,.float .f64 x.n]] V R:=by
  have hl:=h.lt
  obtain ⟨⟨oa,oc,h1⟩,h2⟩:=h.kp hk
  exact (wput_any hK h1 x hp).mono fun r W' ⟨e,hc,hs⟩=>e▸q W' ⟨hc,h2.trans hs⟩ (((WStep.refl hl).add hk).trans hs)
theorem WAt.callW{f:FuncId}{args:Array Value}(h:WAt K w o lv W)(hc:∀{oa oc},CW K oa oc o lv V→WStep K w V→Calls Tryz.prog f args V fun r w'=>WP K o' lv V r w')(q:∀W',WAt K w o' lv W'→WStep K W W'→R (.returned (.tuple #[])) W')(hk:Keeps [] W V:=by with_reducible repeat (first|exact k0 _ _|refine kA ?_ _|refine kD ?_|refine kS ?_ (by simp)|refine kM ?_ (by simp))):Calls Tryz.prog f args V R:=by
  have hl:=h.lt
  obtain ⟨⟨oa,oc,h1⟩,h2⟩:=h.kp hk
  exact (hc h1 h2).mono fun r W' ⟨e,hc,hs⟩=>e▸q W' ⟨hc,h2.trans hs⟩ (((WStep.refl hl).add hk).trans hs)
theorem WAt.hr(h:WAt K w o lv W)(q:R (.returned (.int .i64 o.length)) V)(hk:Keeps [] W V:=by with_reducible repeat (first|exact k0 _ _|refine kA ?_ _|refine kD ?_|refine kS ?_ (by simp)|refine kM ?_ (by simp))):Calls Tryz.prog 39 #[.pointer (some ⟨K.c,0,none⟩)] V R:=by
  obtain ⟨⟨oa,oc,h1⟩,h2⟩:=h.kp hk
  exact (whereC_any h1).mono fun r W' ⟨e,hc⟩=>e▸hc▸q
end
end Go.Proofs.YteafcepaolofpaaGreatDoor
end
section
/- The writer: either; expressions with jumps. Made by a program (cw2.py). -/
namespace Go.Proofs.YteafcepaolofpaaGreatDoor
open Go.RowKit
end Go.Proofs.YteafcepaolofpaaGreatDoor
end
