/- Texts of this claim, joined: CwN, CwS. -/
import Derived.Test.YteafcepaolofpaaGreatDoorCwM
import Derived.Test.YteafcepaolofpaaGreatDoorPrgA
import Derived.Deep.RegionHeld3
set_option maxRecDepth 100000
set_option maxHeartbeats 4000000
set_option linter.unusedSimpArgs false
set_option linter.unusedVariables false
set_option linter.unusedSectionVars false
section
/- The writer: store; assignments, increments. Made by a program (cwn.py). -/
namespace Go.Proofs.YteafcepaolofpaaGreatDoor
open Go.RowKit
theorem neq_bs{a:ByteArray}{l:List UInt8}(h:a≠bs l):(a.toList==l)=false:=by
  cases hb:same a (bs l)
  · exact same_false hb
  · exact absurd (same_iff.1 hb) h
theorem cA{W:World}{o:Obj}{b i:Nat}{v:Value}(h:b<W.heap.size)(hx:W.cell? ⟨b,i,none⟩=some v):(W.alloc o).cell? ⟨b,i,none⟩=some v:=by
  rw [World.cell?_of_block (w:=W) (a:=⟨b,i,none⟩) ((kA (k0 [] W) o).block b h (by simp))];exact hx
theorem wstore_any{K:WKey}(hK:WFix K){rec:ERec}(hr:ExC K rec){oa:Option Addr}{oc:Nat}{o o':Out}{lv:Value}{w:World}(h:CW K oa oc o lv w){n:Node}{v:Value}(hn:NodeR K.w0 (fun _=>True) n v)(hkl:n.kids.length≤1000000)(s:ByteArray)(vi e f:Int){val:List Node}{vv:Value}(hv:NRow K w val vv)(hvl:val.length≤1000000)(hx:storeC K.E rec n s vi e f val o=some o'):
    Calls Tryz.prog 37 #[.pointer (some ⟨K.c,0,none⟩),v,.string s,.int .i64 vi,.int .i64 e,.int .i64 f,vv] w fun r w'=>WP K o' lv w r w':=by
  by_cases h4:n.kind=4
  · exact wstore_v hK hr h hn h4 s vi e f hv hvl hx
  · by_cases h5:n.kind=5
    · exact wstore_e hK hr h hn h5 hkl s vi e f hv hvl hx
    · exact wstore_f hK hr h hn h4 h5 hkl s vi e f hv hvl hx
theorem wexpr_7a{K:WKey}(hK:WFix K){rec:ERec}(hr:ExC K rec){oa:Option Addr}{oc:Nat}{o o':Out}{lv:Value}{w:World}(h:CW K oa oc o lv w)(nm:ByteArray)(num:Nat){kids:List Node}{na:Option Addr}{nc:Nat}(re im:Nat)(hkd:KidsR K.w0 (fun _=>True) kids (.slice na kids.length nc))(hl:kids.length≤1000000)(hnm:nm.size≤1000000)(hkl:(kidL kids 0).kids.length≤1000000)(hnq:nm=bs [61])(hx:(storeC K.E rec (kidL kids 0) nul 5 9 13 [kidL kids 1] o)=some o'):
    Calls Tryz.prog 15 #[.pointer (some ⟨K.c,0,none⟩),.agg #[.int .i64 7,.string nm,.float .f64 num,.slice na kids.length nc,.complex .f64 re im]] w fun r w'=>WP K o' lv w r w':=by
  have HB:=Lib.hid (WAt.start h)
  have HN:=Lib.hid (show NodeR K.w0 (fun _=>True) (.mk 7 nm num kids re im) (.agg #[.int .i64 7,.string nm,.float .f64 num,.slice na kids.length nc,.complex .f64 re im]) from .mk hkd)
  have HR:=Lib.hid hr;have HKD:=Lib.hid hkd;have HX:=Lib.hid hx
  have heb:(nm.toList== [61])=true:=same_true (same_iff.2 hnq)
  clear hnq
  clear h hr hkd hx
  go_enter Tryz.func15,Tryz.ntmps15
  go_wp2_with fail
  refine HB.out.kd (i:=1) HN.out hl (by omega) ?_
  clear HB
  intro W1 u hu hb hk
  have HB:=Lib.hid hb
  obtain ⟨va,vc,rfl,-⟩:=hu.full
  have HVN:=Lib.hid (show NodeR K.w0 (fun _=>True) (kidL kids 1) (.agg #[.int .i64 (kidL kids 1).kind,.string (kidL kids 1).name,.float .f64 (kidL kids 1).num,.slice va (kidL kids 1).kids.length vc,.complex .f64 (kidL kids 1).re (kidL kids 1).im]) from hu)
  have HBX:=Lib.hid (show W1.heap[w.heap.size]? =some (.cells #[.int .i64 7,.string nm,.float .f64 num,.slice na kids.length nc,.complex .f64 re im] 58 (0,0)) from hk.at (by simp only [hA,reduceIte]) (by simp))
  have x0:=cell_of_heap HBX.out 0;have x1:=cell_of_heap HBX.out 1;have x2:=cell_of_heap HBX.out 2;have x3:=cell_of_heap HBX.out 3;have x4:=cell_of_heap HBX.out 4;have l1:=h_lt HBX.out
  simp at x0 x1 x2 x3 x4
  clear hu hb hk
  go_wp2_with fail
  refine wp_at (fun V=>Keeps [] W1 V∧V.heap[W1.heap.size]? =some (.cells #[.int .i64 (kidL kids 1).kind,.string (kidL kids 1).name,.float .f64 (kidL kids 1).num,.slice va (kidL kids 1).kids.length vc,.complex .f64 (kidL kids 1).re (kidL kids 1).im] 58 (0,0))) ⟨kps,cel⟩ ?_
  rintro W2 ⟨hk,hby⟩
  have HB:=Lib.hid (HB.out.kp hk)
  have HBX:=Lib.hid (show W2.heap[w.heap.size]? =_ from hk.at HBX.out (by simp))
  obtain ⟨B,hB⟩:∃B,W1.heap.size=B:=⟨_,rfl⟩
  rw [hB] at hby⊢
  have HBY:=Lib.hid (show W2.heap[B]? =_ from hby)
  clear hk hby x0 x1 x2 x3 x4 l1
  have x0:=cell_of_heap HBX.out 0;have x1:=cell_of_heap HBX.out 1;have x2:=cell_of_heap HBX.out 2;have x3:=cell_of_heap HBX.out 3;have x4:=cell_of_heap HBX.out 4;have l1:=h_lt HBX.out
  have y0:=cell_of_heap HBY.out 0;have y1:=cell_of_heap HBY.out 1;have y2:=cell_of_heap HBY.out 2;have y3:=cell_of_heap HBY.out 3;have y4:=cell_of_heap HBY.out 4;have l2:=h_lt HBY.out
  simp at x0 x1 x2 x3 x4 y0 y1 y2 y3 y4
  go_region_held3 (fun V=>V.cell? ⟨w.heap.size,0,none⟩=some (.int .i64 7)∧V.cell? ⟨w.heap.size,1,none⟩=some (.string nm)∧V.cell? ⟨w.heap.size,2,none⟩=some (.float .f64 num)∧V.cell? ⟨w.heap.size,3,none⟩=some (.slice na kids.length nc)∧V.cell? ⟨w.heap.size,4,none⟩=some (.complex .f64 re im)∧V.cell? ⟨B,0,none⟩=some (.int .i64 (kidL kids 1).kind)∧V.cell? ⟨B,1,none⟩=some (.string (kidL kids 1).name)∧V.cell? ⟨B,2,none⟩=some (.float .f64 (kidL kids 1).num)∧V.cell? ⟨B,3,none⟩=some (.slice va (kidL kids 1).kids.length vc)∧V.cell? ⟨B,4,none⟩=some (.complex .f64 (kidL kids 1).re (kidL kids 1).im)) (first|exact ⟨x0,x1,x2,x3,x4,y0,y1,y2,y3,y4⟩|exact ⟨cA l1 x0,cA l1 x1,cA l1 x2,cA l1 x3,cA l1 x4,cA l2 y0,cA l2 y1,cA l2 y2,cA l2 y3,cA l2 y4⟩)
    (first
      | (go_at_call 36
         refine HB.out.kd (i:=0) HN.out hl (by omega) ?_
         clear HB x0 x1 x2 x3 x4 l1 y0 y1 y2 y3 y4 l2
         intro W4 u hu hb hk
         have HB:=Lib.hid hb
         obtain ⟨ua,uc,rfl,-⟩:=hu.full
         have HU:=Lib.hid hu
         have HKV:=Lib.hid hk
         have hk3:=(show Keeps [] W2 W4 from Keeps.trans (fp':= []) kps hk (by simp))
         have HBX:=Lib.hid (show W4.heap[w.heap.size]? =some (.cells #[.int .i64 7,.string nm,.float .f64 num,.slice na kids.length nc,.complex .f64 re im] 58 (0,0)) from hk3.at HBX.out (by simp))
         have HBY:=Lib.hid (show W4.heap[B]? =some (.cells #[.int .i64 (kidL kids 1).kind,.string (kidL kids 1).name,.float .f64 (kidL kids 1).num,.slice va (kidL kids 1).kids.length vc,.complex .f64 (kidL kids 1).re (kidL kids 1).im] 58 (0,0)) from hk3.at HBY.out (by simp))
         have x0:=cell_of_heap HBX.out 0;have x1:=cell_of_heap HBX.out 1;have x2:=cell_of_heap HBX.out 2;have x3:=cell_of_heap HBX.out 3;have x4:=cell_of_heap HBX.out 4;have l1:=h_lt HBX.out
         have y0:=cell_of_heap HBY.out 0;have y1:=cell_of_heap HBY.out 1;have y2:=cell_of_heap HBY.out 2;have y3:=cell_of_heap HBY.out 3;have y4:=cell_of_heap HBY.out 4;have l2:=h_lt HBY.out
         simp at x0 x1 x2 x3 x4 y0 y1 y2 y3 y4
         clear hu hb hk hk3)
      | (go_at_call 37
         refine HB.out.callW (fun h hs=>wstore_any hK HR.out h HU.out hkl (nul) 5 9 13 (NRow.one (f:=(0,0)) (by first|(simp only [hA,reduceIte];done)|exact HKV.out.at (by simp only [hA,hD,World.size_drew,reduceIte]) (by simp)) HVN.out) (by simp) HX.out) ?_
         clear HB x0 x1 x2 x3 x4 l1 y0 y1 y2 y3 y4 l2
         intro W5 hb hk
         have HB:=Lib.hid hb
         have HBX:=Lib.hid (show W5.heap[w.heap.size]? =some (.cells #[.int .i64 7,.string nm,.float .f64 num,.slice na kids.length nc,.complex .f64 re im] 58 (0,0)) from hk.at HBX.out (by simp))
         have HBY:=Lib.hid (show W5.heap[B]? =some (.cells #[.int .i64 (kidL kids 1).kind,.string (kidL kids 1).name,.float .f64 (kidL kids 1).num,.slice va (kidL kids 1).kids.length vc,.complex .f64 (kidL kids 1).re (kidL kids 1).im] 58 (0,0)) from hk.at HBY.out (by simp))
         have x0:=cell_of_heap HBX.out 0;have x1:=cell_of_heap HBX.out 1;have x2:=cell_of_heap HBX.out 2;have x3:=cell_of_heap HBX.out 3;have x4:=cell_of_heap HBX.out 4;have l1:=h_lt HBX.out
         have y0:=cell_of_heap HBY.out 0;have y1:=cell_of_heap HBY.out 1;have y2:=cell_of_heap HBY.out 2;have y3:=cell_of_heap HBY.out 3;have y4:=cell_of_heap HBY.out 4;have l2:=h_lt HBY.out
         simp at x0 x1 x2 x3 x4 y0 y1 y2 y3 y4
         clear hb hk))
  all_goals
    go_wp2_with fail
    go_end0
    exact HB.out.fin
theorem wexpr_7c{K:WKey}(hK:WFix K){rec:ERec}(hr:ExC K rec){oa:Option Addr}{oc:Nat}{o o':Out}{lv:Value}{w:World}(h:CW K oa oc o lv w)(nm:ByteArray)(num:Nat){kids:List Node}{na:Option Addr}{nc:Nat}(re im:Nat)(hkd:KidsR K.w0 (fun _=>True) kids (.slice na kids.length nc))(hl:kids.length≤1000000)(hnm:nm.size≤1000000)(hkl:(kidL kids 0).kids.length≤1000000)(hnq:nm≠bs [61])(h0:1<nm.size)(hx:(storeC K.E rec (kidL kids 0) (nm.extract 0 (nm.size -1)) 6 10 14 [kidL kids 1] o)=some o'):
    Calls Tryz.prog 15 #[.pointer (some ⟨K.c,0,none⟩),.agg #[.int .i64 7,.string nm,.float .f64 num,.slice na kids.length nc,.complex .f64 re im]] w fun r w'=>WP K o' lv w r w':=by
  have HB:=Lib.hid (WAt.start h)
  have HN:=Lib.hid (show NodeR K.w0 (fun _=>True) (.mk 7 nm num kids re im) (.agg #[.int .i64 7,.string nm,.float .f64 num,.slice na kids.length nc,.complex .f64 re im]) from .mk hkd)
  have HR:=Lib.hid hr;have HKD:=Lib.hid hkd;have HX:=Lib.hid hx
  have heb:(nm.toList== [61])=false:=neq_bs hnq
  clear hnq
  obtain ⟨m,hm⟩:∃m,nm.size=m+1:=⟨nm.size -1,by omega⟩
  have hm1:nm.size -1=m:=by omega
  rw [hm1] at HX
  have hwr:IntKind.i64.wrap ((nm.size:Int) -1)=m:=by rw [wrap_id (by omega) (by omega)];omega
  have hpos:0<m:=by omega
  have hmz:(m:Int)≤(nm.size:Int):=by omega
  have hmz0:(0:Int)≤(m:Int):=by omega
  clear hm hm1
  clear h hr hkd hx
  go_enter Tryz.func15,Tryz.ntmps15
  go_wp2_with fail
  refine HB.out.kd (i:=1) HN.out hl (by omega) ?_
  clear HB
  intro W1 u hu hb hk
  have HB:=Lib.hid hb
  obtain ⟨va,vc,rfl,-⟩:=hu.full
  have HVN:=Lib.hid (show NodeR K.w0 (fun _=>True) (kidL kids 1) (.agg #[.int .i64 (kidL kids 1).kind,.string (kidL kids 1).name,.float .f64 (kidL kids 1).num,.slice va (kidL kids 1).kids.length vc,.complex .f64 (kidL kids 1).re (kidL kids 1).im]) from hu)
  have HBX:=Lib.hid (show W1.heap[w.heap.size]? =some (.cells #[.int .i64 7,.string nm,.float .f64 num,.slice na kids.length nc,.complex .f64 re im] 58 (0,0)) from hk.at (by simp only [hA,reduceIte]) (by simp))
  have x0:=cell_of_heap HBX.out 0;have x1:=cell_of_heap HBX.out 1;have x2:=cell_of_heap HBX.out 2;have x3:=cell_of_heap HBX.out 3;have x4:=cell_of_heap HBX.out 4;have l1:=h_lt HBX.out
  simp at x0 x1 x2 x3 x4
  clear hu hb hk
  go_wp2_with fail
  refine wp_at (fun V=>Keeps [] W1 V∧V.heap[W1.heap.size]? =some (.cells #[.int .i64 (kidL kids 1).kind,.string (kidL kids 1).name,.float .f64 (kidL kids 1).num,.slice va (kidL kids 1).kids.length vc,.complex .f64 (kidL kids 1).re (kidL kids 1).im] 58 (0,0))) ⟨kps,cel⟩ ?_
  rintro W2 ⟨hk,hby⟩
  have HB:=Lib.hid (HB.out.kp hk)
  have HBX:=Lib.hid (show W2.heap[w.heap.size]? =_ from hk.at HBX.out (by simp))
  obtain ⟨B,hB⟩:∃B,W1.heap.size=B:=⟨_,rfl⟩
  rw [hB] at hby⊢
  have HBY:=Lib.hid (show W2.heap[B]? =_ from hby)
  clear hk hby x0 x1 x2 x3 x4 l1
  have x0:=cell_of_heap HBX.out 0;have x1:=cell_of_heap HBX.out 1;have x2:=cell_of_heap HBX.out 2;have x3:=cell_of_heap HBX.out 3;have x4:=cell_of_heap HBX.out 4;have l1:=h_lt HBX.out
  have y0:=cell_of_heap HBY.out 0;have y1:=cell_of_heap HBY.out 1;have y2:=cell_of_heap HBY.out 2;have y3:=cell_of_heap HBY.out 3;have y4:=cell_of_heap HBY.out 4;have l2:=h_lt HBY.out
  simp at x0 x1 x2 x3 x4 y0 y1 y2 y3 y4
  go_region_held3 (fun V=>V.cell? ⟨w.heap.size,0,none⟩=some (.int .i64 7)∧V.cell? ⟨w.heap.size,1,none⟩=some (.string nm)∧V.cell? ⟨w.heap.size,2,none⟩=some (.float .f64 num)∧V.cell? ⟨w.heap.size,3,none⟩=some (.slice na kids.length nc)∧V.cell? ⟨w.heap.size,4,none⟩=some (.complex .f64 re im)∧V.cell? ⟨B,0,none⟩=some (.int .i64 (kidL kids 1).kind)∧V.cell? ⟨B,1,none⟩=some (.string (kidL kids 1).name)∧V.cell? ⟨B,2,none⟩=some (.float .f64 (kidL kids 1).num)∧V.cell? ⟨B,3,none⟩=some (.slice va (kidL kids 1).kids.length vc)∧V.cell? ⟨B,4,none⟩=some (.complex .f64 (kidL kids 1).re (kidL kids 1).im)) (first|exact ⟨x0,x1,x2,x3,x4,y0,y1,y2,y3,y4⟩|exact ⟨cA l1 x0,cA l1 x1,cA l1 x2,cA l1 x3,cA l1 x4,cA l2 y0,cA l2 y1,cA l2 y2,cA l2 y3,cA l2 y4⟩)
    (first
      | (go_at_call 36
         refine HB.out.kd (i:=0) HN.out hl (by omega) ?_
         clear HB x0 x1 x2 x3 x4 l1 y0 y1 y2 y3 y4 l2
         intro W4 u hu hb hk
         have HB:=Lib.hid hb
         obtain ⟨ua,uc,rfl,-⟩:=hu.full
         have HU:=Lib.hid hu
         have HKV:=Lib.hid hk
         have hk3:=(show Keeps [] W2 W4 from Keeps.trans (fp':= []) kps hk (by simp))
         have HBX:=Lib.hid (show W4.heap[w.heap.size]? =some (.cells #[.int .i64 7,.string nm,.float .f64 num,.slice na kids.length nc,.complex .f64 re im] 58 (0,0)) from hk3.at HBX.out (by simp))
         have HBY:=Lib.hid (show W4.heap[B]? =some (.cells #[.int .i64 (kidL kids 1).kind,.string (kidL kids 1).name,.float .f64 (kidL kids 1).num,.slice va (kidL kids 1).kids.length vc,.complex .f64 (kidL kids 1).re (kidL kids 1).im] 58 (0,0)) from hk3.at HBY.out (by simp))
         have x0:=cell_of_heap HBX.out 0;have x1:=cell_of_heap HBX.out 1;have x2:=cell_of_heap HBX.out 2;have x3:=cell_of_heap HBX.out 3;have x4:=cell_of_heap HBX.out 4;have l1:=h_lt HBX.out
         have y0:=cell_of_heap HBY.out 0;have y1:=cell_of_heap HBY.out 1;have y2:=cell_of_heap HBY.out 2;have y3:=cell_of_heap HBY.out 3;have y4:=cell_of_heap HBY.out 4;have l2:=h_lt HBY.out
         simp at x0 x1 x2 x3 x4 y0 y1 y2 y3 y4
         clear hu hb hk hk3)
      | (go_at_call 37
         refine HB.out.callW (fun h hs=>wstore_any hK HR.out h HU.out hkl (nm.extract 0 m) 6 10 14 (NRow.one (f:=(0,0)) (by first|(simp only [hA,reduceIte];done)|exact HKV.out.at (by simp only [hA,hD,World.size_drew,reduceIte]) (by simp)) HVN.out) (by simp) HX.out) ?_
         clear HB x0 x1 x2 x3 x4 l1 y0 y1 y2 y3 y4 l2
         intro W5 hb hk
         have HB:=Lib.hid hb
         have HBX:=Lib.hid (show W5.heap[w.heap.size]? =some (.cells #[.int .i64 7,.string nm,.float .f64 num,.slice na kids.length nc,.complex .f64 re im] 58 (0,0)) from hk.at HBX.out (by simp))
         have HBY:=Lib.hid (show W5.heap[B]? =some (.cells #[.int .i64 (kidL kids 1).kind,.string (kidL kids 1).name,.float .f64 (kidL kids 1).num,.slice va (kidL kids 1).kids.length vc,.complex .f64 (kidL kids 1).re (kidL kids 1).im] 58 (0,0)) from hk.at HBY.out (by simp))
         have x0:=cell_of_heap HBX.out 0;have x1:=cell_of_heap HBX.out 1;have x2:=cell_of_heap HBX.out 2;have x3:=cell_of_heap HBX.out 3;have x4:=cell_of_heap HBX.out 4;have l1:=h_lt HBX.out
         have y0:=cell_of_heap HBY.out 0;have y1:=cell_of_heap HBY.out 1;have y2:=cell_of_heap HBY.out 2;have y3:=cell_of_heap HBY.out 3;have y4:=cell_of_heap HBY.out 4;have l2:=h_lt HBY.out
         simp at x0 x1 x2 x3 x4 y0 y1 y2 y3 y4
         clear hb hk))
  all_goals
    go_wp2_with fail
    go_end0
    exact HB.out.fin
end Go.Proofs.YteafcepaolofpaaGreatDoor
end
section
/- The writer: statements of few kinds. Made by a program (cws.py). -/
namespace Go.Proofs.YteafcepaolofpaaGreatDoor
open Go.RowKit
/-- stmt, as far as rec says: no loop. -/
def StC(K:WKey)(rec:ERec):Prop:=∀(n:Node) (o o':Out),rec n o=some o'→∀v,NodeR K.w0 (fun _=>True) n v→∀(lv:Value) (oa:Option Addr) (oc:Nat) (W:World),CW K oa oc o lv W→Calls Tryz.prog 16 #[.pointer (some ⟨K.c,0,none⟩),v] W fun r w'=>WP K o' lv W r w'
theorem wstmt_30{K:WKey}{rec:ERec}(hr:StC K rec){oa:Option Addr}{oc:Nat}{o o':Out}{lv:Value}{w:World}(h:CW K oa oc o lv w)(nm:ByteArray)(num:Nat){kids:List Node}{na:Option Addr}{nc:Nat}(re im:Nat)(hkd:KidsR K.w0 (fun _=>True) kids (.slice na kids.length nc))(hl:kids.length≤1000000)(hx:exprsC rec kids o=some o'):
    Calls Tryz.prog 16 #[.pointer (some ⟨K.c,0,none⟩),.agg #[.int .i64 30,.string nm,.float .f64 num,.slice na kids.length nc,.complex .f64 re im]] w fun r w'=>WP K o' lv w r w':=by
  have HB:=Lib.hid (WAt.start h)
  have HR:=Lib.hid hr;have HKD:=Lib.hid hkd;have HX:=Lib.hid hx
  clear h hr hkd hx
  go_enter Tryz.func16,Tryz.ntmps16
  go_wp2_with fail
  have HB1:=Lib.hid (HB.out.kp (kA (k0 [] w) (.cells #[.int .i64 30,.string nm,.float .f64 num,.slice na kids.length nc,.complex .f64 re im] 58 (0,0))))
  go_loopg [20] (kids.length+1) (fun g j wr=>ExI K rec kids o' lv w g j wr)
  case atStart=>exact ⟨0,rfl,Nat.zero_le _,rfl,_,HX.out,HB1.out⟩
  case round=>
    obtain ⟨k,rfl,hk1,hk2,o1,hx,hb⟩:=hrel
    clear HB HB1 HX
    have HB:=Lib.hid hb
    by_cases hlt:k<kids.length
    · obtain ⟨g2,o2,na2,nc2,rfl,hd,hn⟩:=kidAt (hb.cw.elim fun _ h=>h.elim fun _ h=>h.keep) HKD.out hlt
      have HN:=Lib.hid hn
      rw [List.drop_eq_getElem_cons hlt,exprsC] at hx
      simp only [Option.bind_eq_bind,Option.bind_eq_some_iff] at hx
      obtain ⟨o3,h3,hx⟩:=hx
      generalize kids[k]=q at*
      have H3:=Lib.hid h3;have HX:=Lib.hid hx
      clear h3 hx hb hn
      cases gk with
      |zero=>omega
      | succ f=>
        go_wp2_with fail
        refine HB.out.call (fun h=>HR.out _ _ _ H3.out _ HN.out _ _ _ _ h) ?_
        clear HB hd
        intro W' hb
        have HB:=Lib.hid hb
        clear hb
        go_wp2_with fail
        go_roundg f
        case measure=>omega
        case rel=>exact ⟨k+1,by first|rfl|(simp;done)|(simp;omega),by omega,by omega,_,HX.out,HB.out⟩
    · have hke:k=kids.length:=by omega
      subst hke
      rw [List.drop_length,exprsC] at hx
      obtain rfl:=Option.some.inj hx
      clear hx hb
      go_wp2_with fail
      go_end0
      exact HB.out.fin
theorem wstmt_44{K:WKey}(hK:WFix K){rec:ERec}(hr:ExC K rec){oa:Option Addr}{oc:Nat}{o o':Out}{lv:Value}{w:World}(h:CW K oa oc o lv w)(nm:ByteArray)(num:Nat){kids:List Node}{na:Option Addr}{nc:Nat}(re im:Nat)(hkd:KidsR K.w0 (fun _=>True) kids (.slice na kids.length nc))(hl:kids.length≤1000000)(hx:((exprsC rec kids o).bind fun o=>putC ⟨29,0,0,nul,0⟩ o)=some o'):
    Calls Tryz.prog 16 #[.pointer (some ⟨K.c,0,none⟩),.agg #[.int .i64 44,.string nm,.float .f64 num,.slice na kids.length nc,.complex .f64 re im]] w fun r w'=>WP K o' lv w r w':=by
  simp only [Option.bind_eq_bind,Option.bind_eq_some_iff] at hx
  obtain ⟨o0,h1,hx⟩:=hx
  have HB:=Lib.hid (WAt.start h)
  have HN:=Lib.hid (show NodeR K.w0 (fun _=>True) (.mk 44 nm num kids re im) (.agg #[.int .i64 44,.string nm,.float .f64 num,.slice na kids.length nc,.complex .f64 re im]) from .mk hkd)
  have HR:=Lib.hid hr;have HKD:=Lib.hid hkd;have H1:=Lib.hid h1;have HX:=Lib.hid hx
  clear h hr hkd h1 hx
  go_enter Tryz.func16,Tryz.ntmps16
  go_wp2_with fail
  refine HB.out.callL (fun h hs=>wexprs_any HR.out h (NRow.of HKD.out) hl H1.out) ?_
  clear HB
  intro W1 hb hs
  have HB:=Lib.hid hb
  have HBX:=Lib.hid (show W1.heap[w.heap.size]? =some (.cells #[.int .i64 44,.string nm,.float .f64 num,.slice na kids.length nc,.complex .f64 re im] 58 (0,0)) from hs.at (by simp only [hA,reduceIte]) (by simp))
  have x0:=cell_of_heap HBX.out 0;have x1:=cell_of_heap HBX.out 1;have x2:=cell_of_heap HBX.out 2;have x3:=cell_of_heap HBX.out 3;have x4:=cell_of_heap HBX.out 4;have l1:=h_lt HBX.out
  simp at x0 x1 x2 x3 x4
  clear hb hs
  go_wp2_with fail
  refine HB.out.putL (x:=⟨29,0,0,nul,0⟩) hK HX.out ?_
  clear HB x0 x1 x2 x3 x4 l1
  intro W2 hb hs
  have HB:=Lib.hid hb
  have HBX:=Lib.hid (show W2.heap[w.heap.size]? =some (.cells #[.int .i64 44,.string nm,.float .f64 num,.slice na kids.length nc,.complex .f64 re im] 58 (0,0)) from hs.at HBX.out (by simp))
  have x0:=cell_of_heap HBX.out 0;have x1:=cell_of_heap HBX.out 1;have x2:=cell_of_heap HBX.out 2;have x3:=cell_of_heap HBX.out 3;have x4:=cell_of_heap HBX.out 4;have l1:=h_lt HBX.out
  simp at x0 x1 x2 x3 x4
  clear hb hs
  go_wp2_with fail
  go_end0
  exact HB.out.fin
theorem wstmt_42{K:WKey}(hK:WFix K){rec:ERec}(hr:ExC K rec){oa:Option Addr}{oc:Nat}{o o':Out}{lv:Value}{w:World}(h:CW K oa oc o lv w)(nm:ByteArray)(num:Nat){kids:List Node}{na:Option Addr}{nc:Nat}(re im:Nat)(hkd:KidsR K.w0 (fun _=>True) kids (.slice na kids.length nc))(hl:kids.length≤1000000)(hne:((kids.length:Int)==0)=false)(hx:((exprsC rec kids o).bind fun o=>putC ⟨41,kids.length,0,nul,0⟩ o)=some o'):
    Calls Tryz.prog 16 #[.pointer (some ⟨K.c,0,none⟩),.agg #[.int .i64 42,.string nm,.float .f64 num,.slice na kids.length nc,.complex .f64 re im]] w fun r w'=>WP K o' lv w r w':=by
  simp only [Option.bind_eq_bind,Option.bind_eq_some_iff] at hx
  obtain ⟨o0,h1,hx⟩:=hx
  have HB:=Lib.hid (WAt.start h)
  have HN:=Lib.hid (show NodeR K.w0 (fun _=>True) (.mk 42 nm num kids re im) (.agg #[.int .i64 42,.string nm,.float .f64 num,.slice na kids.length nc,.complex .f64 re im]) from .mk hkd)
  have HR:=Lib.hid hr;have HKD:=Lib.hid hkd;have H1:=Lib.hid h1;have HX:=Lib.hid hx
  clear h hr hkd h1 hx
  go_enter Tryz.func16,Tryz.ntmps16
  go_wp2_with fail
  refine HB.out.callL (fun h hs=>wexprs_any HR.out h (NRow.of HKD.out) hl H1.out) ?_
  clear HB
  intro W1 hb hs
  have HB:=Lib.hid hb
  have HBX:=Lib.hid (show W1.heap[w.heap.size]? =some (.cells #[.int .i64 42,.string nm,.float .f64 num,.slice na kids.length nc,.complex .f64 re im] 58 (0,0)) from hs.at (by simp only [hA,reduceIte]) (by simp))
  have x0:=cell_of_heap HBX.out 0;have x1:=cell_of_heap HBX.out 1;have x2:=cell_of_heap HBX.out 2;have x3:=cell_of_heap HBX.out 3;have x4:=cell_of_heap HBX.out 4;have l1:=h_lt HBX.out
  simp at x0 x1 x2 x3 x4
  clear hb hs
  go_wp2_with fail
  refine HB.out.putL (x:=⟨41,kids.length,0,nul,0⟩) hK HX.out ?_
  clear HB x0 x1 x2 x3 x4 l1
  intro W2 hb hs
  have HB:=Lib.hid hb
  have HBX:=Lib.hid (show W2.heap[w.heap.size]? =some (.cells #[.int .i64 42,.string nm,.float .f64 num,.slice na kids.length nc,.complex .f64 re im] 58 (0,0)) from hs.at HBX.out (by simp))
  have x0:=cell_of_heap HBX.out 0;have x1:=cell_of_heap HBX.out 1;have x2:=cell_of_heap HBX.out 2;have x3:=cell_of_heap HBX.out 3;have x4:=cell_of_heap HBX.out 4;have l1:=h_lt HBX.out
  simp at x0 x1 x2 x3 x4
  clear hb hs
  go_wp2_with fail
  go_end0
  exact HB.out.fin
theorem wstmt_42n{K:WKey}(hK:WFix K){rec:ERec}(hr:ExC K rec){oa:Option Addr}{oc:Nat}{o o':Out}{lv:Value}{w:World}(h:CW K oa oc o lv w)(nm:ByteArray)(num:Nat){kids:List Node}{na:Option Addr}{nc:Nat}(re im:Nat)(hkd:KidsR K.w0 (fun _=>True) kids (.slice na kids.length nc))(hl:kids.length≤1000000)(hne:((kids.length:Int)==0)=true)(hx:((exprsC rec kids o).bind fun o=>(recordC o).bind fun o=>putC ⟨41,1,0,nul,0⟩ o)=some o'):
    Calls Tryz.prog 16 #[.pointer (some ⟨K.c,0,none⟩),.agg #[.int .i64 42,.string nm,.float .f64 num,.slice na kids.length nc,.complex .f64 re im]] w fun r w'=>WP K o' lv w r w':=by
  simp only [Option.bind_eq_bind,Option.bind_eq_some_iff] at hx
  obtain ⟨o0,h1,o1,h2,hx⟩:=hx
  have HB:=Lib.hid (WAt.start h)
  have HN:=Lib.hid (show NodeR K.w0 (fun _=>True) (.mk 42 nm num kids re im) (.agg #[.int .i64 42,.string nm,.float .f64 num,.slice na kids.length nc,.complex .f64 re im]) from .mk hkd)
  have HR:=Lib.hid hr;have HKD:=Lib.hid hkd;have H1:=Lib.hid h1;have H2:=Lib.hid h2;have HX:=Lib.hid hx
  clear h hr hkd h1 h2 hx
  go_enter Tryz.func16,Tryz.ntmps16
  go_wp2_with fail
  refine HB.out.callL (fun h hs=>wexprs_any HR.out h (NRow.of HKD.out) hl H1.out) ?_
  clear HB
  intro W1 hb hs
  have HB:=Lib.hid hb
  have HBX:=Lib.hid (show W1.heap[w.heap.size]? =some (.cells #[.int .i64 42,.string nm,.float .f64 num,.slice na kids.length nc,.complex .f64 re im] 58 (0,0)) from hs.at (by simp only [hA,reduceIte]) (by simp))
  have x0:=cell_of_heap HBX.out 0;have x1:=cell_of_heap HBX.out 1;have x2:=cell_of_heap HBX.out 2;have x3:=cell_of_heap HBX.out 3;have x4:=cell_of_heap HBX.out 4;have l1:=h_lt HBX.out
  simp at x0 x1 x2 x3 x4
  clear hb hs
  go_wp2_with fail
  refine HB.out.callL (fun h hs=>wrecord_any hK h H2.out) ?_
  clear HB x0 x1 x2 x3 x4 l1
  intro W2 hb hs
  have HB:=Lib.hid hb
  have HBX:=Lib.hid (show W2.heap[w.heap.size]? =some (.cells #[.int .i64 42,.string nm,.float .f64 num,.slice na kids.length nc,.complex .f64 re im] 58 (0,0)) from hs.at HBX.out (by simp))
  have x0:=cell_of_heap HBX.out 0;have x1:=cell_of_heap HBX.out 1;have x2:=cell_of_heap HBX.out 2;have x3:=cell_of_heap HBX.out 3;have x4:=cell_of_heap HBX.out 4;have l1:=h_lt HBX.out
  simp at x0 x1 x2 x3 x4
  clear hb hs
  go_wp2_with fail
  refine HB.out.putL (x:=⟨41,1,0,nul,0⟩) hK HX.out ?_
  clear HB x0 x1 x2 x3 x4 l1
  intro W3 hb hs
  have HB:=Lib.hid hb
  have HBX:=Lib.hid (show W3.heap[w.heap.size]? =some (.cells #[.int .i64 42,.string nm,.float .f64 num,.slice na kids.length nc,.complex .f64 re im] 58 (0,0)) from hs.at HBX.out (by simp))
  have x0:=cell_of_heap HBX.out 0;have x1:=cell_of_heap HBX.out 1;have x2:=cell_of_heap HBX.out 2;have x3:=cell_of_heap HBX.out 3;have x4:=cell_of_heap HBX.out 4;have l1:=h_lt HBX.out
  simp at x0 x1 x2 x3 x4
  clear hb hs
  go_wp2_with fail
  go_end0
  exact HB.out.fin
def exprK(E:CEnv):Nat→ERec
  |0=>fun _ _=>none
  |f+1=>fun n o=>if n.kind=1∨n.kind=3∨n.kind=4∨n.kind=6∨n.kind=7 then exprC E (exprK E f) n.kind n.name n.num n.kids o else none
def printK(kids:List Node)(o:Out):Option Out:=if kids.length=0 then (recordC o).bind fun o=>putC ⟨41,1,0,nul,0⟩ o else putC ⟨41,kids.length,0,nul,0⟩ o
def stmtK(ex:ERec):Nat→ERec
  |0=>fun _ _=>none
  | f+1=>fun n o=>
    if 1000000<n.kids.length then none
    else if n.kind=30 then exprsC (stmtK ex f) n.kids o
    else if n.kind=42 then (exprsC ex n.kids o).bind fun o=>printK n.kids o
    else if n.kind=44 then (exprsC ex n.kids o).bind fun o=>putC ⟨29,0,0,nul,0⟩ o
    else none
theorem kidL_mem{l:List Node}{i:Nat}:kidL l i=noneN∨kidL l i∈l:=by
  unfold kidL
  rw [List.getD_eq_getElem?_getD]
  by_cases h:i<l.length
  · rw [List.getElem?_eq_getElem h];exact .inr (List.getElem_mem h)
  · rw [List.getElem?_eq_none (by omega)];exact .inl rfl
theorem bigK_no{nm:ByteArray}{kids:List Node}(h:¬bigK nm kids=true):nm.size≤1000000∧kids.length≤1000000∧∀i,(kidL kids i).kids.length≤1000000:=by
  unfold bigK at h
  simp only [Bool.or_eq_true,decide_eq_true_eq,List.any_eq_true,not_or,not_exists,not_and] at h
  refine ⟨by omega,by omega,fun i=> ?_⟩
  rcases kidL_mem (l:=kids) (i:=i) with e|e
  · rw [e];exact Nat.zero_le _
  · have:=h.2 _ e;omega
theorem exprC_few{K:WKey}(hK:WFix K){rec:ERec}(hr:ExC K rec){oa:Option Addr}{oc:Nat}{o o':Out}{lv:Value}{w:World}(h:CW K oa oc o lv w){kd:Int}(hk:kd=1∨kd=3∨kd=4∨kd=6∨kd=7)(nm:ByteArray)(num:Nat){kids:List Node}{na:Option Addr}{nc:Nat}(re im:Nat)(hkd:KidsR K.w0 (fun _=>True) kids (.slice na kids.length nc))(hx:exprC K.E rec kd nm num kids o=some o'):
    Calls Tryz.prog 15 #[.pointer (some ⟨K.c,0,none⟩),.agg #[.int .i64 kd,.string nm,.float .f64 num,.slice na kids.length nc,.complex .f64 re im]] w fun r w'=>WP K o' lv w r w':=by
  unfold exprC at hx
  by_cases hb:bigK nm kids=true
  · rw [if_pos hb] at hx;cases hx
  rw [if_neg hb] at hx
  obtain ⟨hnm,hl,hg⟩:=bigK_no hb
  rcases hk with rfl|rfl|rfl|rfl|rfl
  · rw [if_pos rfl] at hx
    exact wexpr_1 hK h nm num na kids.length nc re im hx
  · rw [if_neg (by decide),if_neg (by decide),if_pos rfl] at hx
    simp only [Option.bind_eq_bind,Option.bind_eq_some_iff] at hx
    obtain ⟨o1,h1,o2,h2,hx⟩:=hx
    exact wexpr_3 hK h nm num na kids.length nc re im h1 h2 hx
  · rw [if_neg (by decide),if_neg (by decide),if_neg (by decide),if_pos rfl] at hx
    exact wexpr_4 hK h nm num na kids.length nc re im hx
  · rw [if_neg (by decide),if_neg (by decide),if_neg (by decide),if_neg (by decide),if_neg (by decide),if_pos rfl] at hx
    exact wexpr_6 hK hr h nm num re im hkd hl hx
  · rw [if_neg (by decide),if_neg (by decide),if_neg (by decide),if_neg (by decide),if_neg (by decide),if_neg (by decide),if_pos rfl] at hx
    by_cases hq:nm=bs [61]
    · rw [if_pos hq] at hx
      exact wexpr_7a hK hr h nm num re im hkd hl hnm (hg 0) hq hx
    · rw [if_neg hq] at hx
      by_cases h2:nm.size<2
      · rw [if_pos h2] at hx;cases hx
      · rw [if_neg h2] at hx
        exact wexpr_7c hK hr h nm num re im hkd hl hnm (hg 0) hq (by omega) hx
theorem exK{K:WKey}(hK:WFix K):∀f,ExC K (exprK K.E f)
  |0=>fun _ _ _ hx=>by simp [exprK] at hx
  | f +1=>fun n o o' hx v hn lv oa oc W h=>by
    have hr:=exK hK f
    rw [exprK] at hx
    dsimp only at hx
    obtain ⟨na,nc,rfl,hkd⟩:=hn.full
    by_cases hk:n.kind=1∨n.kind=3∨n.kind=4∨n.kind=6∨n.kind=7
    · rw [if_pos hk] at hx
      exact exprC_few hK hr h hk n.name n.num n.re n.im hkd hx
    · rw [if_neg hk] at hx;cases hx
theorem stK{K:WKey}(hK:WFix K){ex:ERec}(hr:ExC K ex):∀f,StC K (stmtK ex f)
  |0=>fun _ _ _ hx=>by simp [stmtK] at hx
  | f + 1=>fun n o o' hx v hn lv oa oc W h=>by
    have hs:=stK hK hr f
    rw [stmtK] at hx
    dsimp only at hx
    obtain ⟨na,nc,rfl,hkd⟩:=hn.full
    by_cases hl:1000000<n.kids.length
    · rw [if_pos hl] at hx;cases hx
    rw [if_neg hl] at hx
    by_cases e:n.kind=30
    · rw [if_pos e] at hx
      rw [e]
      exact wstmt_30 hs h n.name n.num n.re n.im hkd (by omega) hx
    rw [if_neg e] at hx
    by_cases e:n.kind=42
    · rw [if_pos e] at hx
      rw [e]
      unfold printK at hx
      by_cases e0:n.kids.length=0
      · simp only [if_pos e0] at hx
        exact wstmt_42n hK hr h n.name n.num n.re n.im hkd (by omega) (by simp [e0]) hx
      · simp only [if_neg e0] at hx
        exact wstmt_42 hK hr h n.name n.num n.re n.im hkd (by omega) (by simp;exact fun h=>e0 (by rw [h];rfl)) hx
    rw [if_neg e] at hx
    by_cases e:n.kind=44
    · rw [if_pos e] at hx
      rw [e]
      exact wstmt_44 hK hr h n.name n.num n.re n.im hkd (by omega) hx
    · rw [if_neg e] at hx;cases hx
end Go.Proofs.YteafcepaolofpaaGreatDoor
end
