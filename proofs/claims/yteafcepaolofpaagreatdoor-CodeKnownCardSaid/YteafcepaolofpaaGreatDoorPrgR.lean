/- Texts of this claim, joined: PrgC, PrgR. -/
import Derived.Test.YteafcepaolofpaaGreatDoorPrgB
import Derived.Test.YteafcepaolofpaaGreatDoorThings
set_option maxRecDepth 100000
set_option maxHeartbeats 4000000
set_option linter.unusedSimpArgs false
set_option linter.unusedVariables false
set_option linter.unusedSectionVars false
section
/- item, walked. Made by a program (parse.py, walk.py). -/
namespace Go.Proofs.YteafcepaolofpaaGreatDoor
open Go.RowKit

theorem FuncV.shape{w:World}{S:Nat→Prop}{f:FuncP}{v:Value}(h:FuncV w S f v):∃pa pc bt bm ba bl bc br bi,v= .agg #[.string f.name,.slice pa f.params.length pc,.int .i64 f.body.kind,.string bt,.float .f64 bm,.slice ba bl bc,.complex .f64 br bi,.complex .f64 f.re f.im]:=by
  obtain ⟨pa,pc,b0,b1,b2,b3,b4,rfl,hp,hn⟩:=h
  obtain ⟨bt,bm,ba,bl,bc,br,bi,hv,-,-⟩:=hn.shape
  simp at hv
  obtain ⟨rfl,rfl,rfl,rfl,rfl⟩:=hv
  exact ⟨_,_,_,_,_,_,_,_,_,rfl⟩
theorem RuleV.shape{w:World}{S:Nat→Prop}{f:RuleP}{v:Value}(h:RuleV w S f v):∃pa pc bt bm ba bl bc br bi,v= .agg #[.int .i64 f.kind,.int .i64 f.n,.slice pa f.pats.length pc,.int .i64 f.body.kind,.string bt,.float .f64 bm,.slice ba bl bc,.complex .f64 br bi,.complex .f64 f.re f.im]:=by
  obtain ⟨pa,pc,b0,b1,b2,b3,b4,rfl,hp,hn⟩:=h
  obtain ⟨bt,bm,ba,bl,bc,br,bi,hv,-,-⟩:=hn.shape
  simp at hv
  obtain ⟨rfl,rfl,rfl,rfl,rfl⟩:=hv
  exact ⟨_,_,_,_,_,_,_,_,_,rfl⟩
theorem ruleE_of{w:World}{S:Nat→Prop}{f:RuleP}{c0 c1 c2 c3 c4 c5 c6 c7 c8:Value}(h:RuleV w S f (.agg #[c0,c1,c2,c3,c4,c5,c6,c7,c8])):RuleE w S f [c0,c1,c2,c3,c4,c5,c6,c7,c8]:=by
  obtain ⟨pa,pc,b0,b1,b2,b3,b4,hv,hp,hn⟩:=h
  simp at hv
  obtain ⟨rfl,rfl,rfl,rfl,rfl,rfl,rfl,rfl,rfl⟩:=hv
  exact ⟨_,_,_,_,_,_,_,rfl,hp,hn⟩
theorem info52:∃i,Tryz.prog.info? 60=some i∧i.zero=some (.agg #[.int .i64 0,.int .i64 0,.slice none 0 0,.int .i64 0,.string ⟨#[]⟩,.float .f64 0,.slice none 0 0,.complex .f64 0 0,.complex .f64 0 0])∧i.size=9∧i.bytes=128:=by
  have h:(Tryz.prog.info? 60).map (fun i=>(i.zero,i.size,i.bytes))=some (some (.agg #[.int .i64 0,.int .i64 0,.slice none 0 0,.int .i64 0,.string ⟨#[]⟩,.float .f64 0,.slice none 0 0,.complex .f64 0 0,.complex .f64 0 0]),9,128):=by kernel_rfl
  cases hi:Tryz.prog.info? 60 with
  |none=>rw [hi] at h;cases h
  |some i=>rw [hi] at h;simp at h;exact ⟨i,rfl,h.1,h.2.1,h.2.2⟩

/-- append of one element, as a step of a region that draws. -/
theorem step_appL{P:Program}{α:Type}{E:World→(Nat→Prop)→α→List Value→Prop}{e:TypeId}{size:Nat}(hE:ElemL E size){ops:Array Oper}{o:Oper}{a:Act}{w:World}{K:Act→World→Prop}{Q:Exit→Act→World→Prop}{Z:Prop}(hgd:o.guard=none)(s y:Operand)(t:TypeId)
    (ho:o.op= .call {callee:= .builtin .append,args:= #[s,y],argTypes:= #[t,t]}) {i:TypeInfo} {z:Value} {bytes:Nat} (hu:P.underlying t=some (.slice e)) (hi:P.info? e=some i) (hz:i.zero=some z)
    (hsize:i.size=size) (hby:i.bytes=bytes) (hzs:z.cells.size=size) (hsz:0<size) (hbb:bytes≤1000)
    {b G cap:Nat} {T S:Nat→Prop} {l:List α} {x:α} {v:Value} {c:List Value} (hs:a.eval s=v) (hy:a.eval y= .slice (some ⟨G,0,none⟩) 1 cap) (hO:OwnL E e size w b T l v)
    (hG:w.heap[G]? =some (.cells c.toArray e (0,0))) (hm:E w S x c) (hd:∀g,S g→¬T g) (hS:∀g,S g→g<w.heap.size) (hT:∀g,T g→g<w.heap.size) (hb:b≤w.heap.size) (hl:l.length≤400000)
    (h:∀v' w' fl,(∀x∈fl,T x)→Keeps fl w w'→OwnL E e size w' b (fun g=>T g∨S g∨(w.heap.size≤g∧g<w'.heap.size)) (l++ [x]) v'→K (a.put o.dst v') w'):
    if Region.wanted o (yielded ops a.tmps)=true then Oper.wp P o a w K Q else Z:=by
  obtain ⟨xs,hown,ht,hx⟩:=hO
  have hlen:=hE.len hm
  refine step_append_lies w hgd s y t ho b e i z size bytes hu hi hz hsize hby hzs hsz v l.length xs hs hown ⟨G,0,none⟩ 1 cap c hy (by simp [hlen]) (fun j u hj=> ?_) (hE.one hm) (by omega) (by simp [maxLen];omega) ?_ hb _ rfl fun g cp w1 h1 h2 h3 h4=> ?_
  · have:=cell_of_heap hG j
    have e1:(⟨G,0,none⟩:Addr).add j=⟨G,j,none⟩:=by simp [Addr.add];intro h;rw [h]
    rw [e1,this];simpa using hj
  · exact Nat.le_trans (Nat.mul_le_mul (show l.length+1≤400001 by omega) hbb) (by decide)
  · obtain ⟨q1,fl,q2,q3⟩:=own_grown hE hown ht hx hm hd hS hT h1 h2 h3 h4
    exact h _ _ fl q2 q3 q1

/-- The program so far, in block gb. -/
def ProgI(s:ByteArray)(p gb:Nat)(w:World)(rs:List RuleP)(fs:List FuncP)(st:PSt)(W:World):Prop:=
  ∃ (v1 v2:Value) (T1 T2:Nat→Prop) (U:Nat),OwnL RuleE 60 9 W w.heap.size T1 rs v1∧OwnL FuncE 67 8 W w.heap.size T2 fs v2∧(∀x,T1 x→x<U)∧(∀x,T2 x→x<U)∧U≤W.heap.size∧(∀x,T1 x→w.heap.size≤x)∧(∀x,T2 x→w.heap.size≤x)∧
    (∀x,T1 x→¬T2 x)∧¬T1 p∧¬T2 p∧¬T1 gb∧¬T2 gb∧p≠gb∧w.heap.size≤p∧w.heap.size≤gb∧PP s p st W∧Keeps [] w W∧W.heap[gb]? =some (.cells #[v1,v2] 32 (0,0))

theorem item_r{s:ByteArray}{p gb:Nat}{w wi:World}{st st2:PSt}{rs:List RuleP}{fs:List FuncP}{f:RuleP}(hb:isF s st ⟨#[102,117,110,99,116,105,111,110]⟩=some false)(hc:∀w,PP s p st w→Calls Tryz.prog 81 #[.pointer (some ⟨p,0,none⟩)] w fun r w'=>∃v,r= .returned (.tuple #[v,.bool true])∧RuleV w' (fun g=>w.heap.size≤g) f v∧PP s p st2 w'∧Keeps [p] w w')(hlen:rs.length≤1000)(g_0:13<w.heap.size)(hi:ProgI s p gb w rs fs st wi):
    Calls Tryz.prog 50 #[.pointer (some ⟨p,0,none⟩),.pointer (some ⟨gb,0,none⟩)] wi fun r w'=>r= .returned (.tuple #[])∧ProgI s p gb w (rs++ [f]) fs st2 w':=by
  obtain ⟨v1,v2,T1,T2,U,h1,h2,up_x,up_y,us_x,dn_x,dn_y,dj_x_y,ns_x_p,ns_y_p,ns_x_g,ns_y_g,n_p_g,o_p,o_g,hp,hk,hg⟩:=hi
  have us_y:=us_x
  have dj_y_x:∀x,T2 x→¬T1 x:=fun x h h'=>dj_x_y x h' h
  have n_g_p:=Ne.symm n_p_g
  obtain ⟨a1,c1,rfl,-⟩:=h1.slice
  obtain ⟨a2,c2,rfl,-⟩:=h2.slice
  have g_p:=hp.p
  have g_g:13<gb:=Nat.lt_of_lt_of_le g_0 o_g
  have HX1:=Lib.hid h1;have HY1:=Lib.hid h2;have HPi:=Lib.hid hp;have HKi:=Lib.hid hk;have Rg:=Lib.hid hg;have HB:=Lib.hid hb;have HC:=Lib.hid hc
  clear h1 h2 hp hk hg hb hc
  go_enter Tryz.func50,Tryz.ntmps50
  have l_p:=h_lt HPi.out.row
  have l_g:=h_lt Rg.out
  go_wp2_with fail
  clear l_p l_g
  refine (isF_any HPi.out HB.out).mono ?_
  rintro r e1 ⟨rfl,hk⟩
  have Re1_g:=Lib.hid (hk.at Rg.out (by simp))
  have HKe1:=Lib.hid (HKi.out.trans hk (by simp))
  have HPe1:=Lib.hid (HPi.out.keep hk)
  have xe1:=Lib.hid (OwnL.kp ruleL HX1.out hk (by simp))
  have us_xe1:=Nat.le_trans us_x hk.size
  have ye1:=Lib.hid (OwnL.kp funcL HY1.out hk (by simp))
  have us_ye1:=Nat.le_trans us_y hk.size
  clear hk Rg HKi HPi HX1 us_x HY1 us_y
  have l_p:=h_lt HPe1.out.row
  have l_g:=h_lt Re1_g.out
  go_wp2_with fail
  clear l_p l_g
  refine (HC.out _ HPe1.out).mono ?_
  rintro r e2 ⟨v,rfl,hn,hp,hk⟩
  have Re2_g:=Lib.hid (hk.at Re1_g.out (by simp [n_g_p]))
  have HKe2:=Lib.hid (HKe1.out.trans hk (by simp [o_p]))
  have xe2:=Lib.hid (OwnL.kp ruleL xe1.out hk (by simp [ns_x_p]))
  have us_xe2:=Nat.le_trans us_xe1 hk.size
  have ye2:=Lib.hid (OwnL.kp funcL ye1.out hk (by simp [ns_y_p]))
  have us_ye2:=Nat.le_trans us_ye1 hk.size
  have HPne2:=Lib.hid hp
  have fe2:=Lib.hid hn.seg
  have o_f:w.heap.size≤e1.heap.size:=HKe1.out.size
  have ns_f_p:¬(Seg e1.heap.size e2.heap.size) (p):=fun h=>Nat.not_lt_of_le h.1 (h_lt HPe1.out.row)
  have ns_f_g:¬(Seg e1.heap.size e2.heap.size) (gb):=fun h=>Nat.not_lt_of_le h.1 (h_lt Re1_g.out)
  have up_f:∀g,(Seg e1.heap.size e2.heap.size) g→g<e2.heap.size:=fun _ h=>h.2
  have dn_f:∀g,(Seg e1.heap.size e2.heap.size) g→w.heap.size≤g:=fun _ h=>Nat.le_trans o_f h.1
  have us_x_f:=us_xe1
  have us_y_f:=us_ye1
  obtain ⟨pa,pc,bt,bm,ba,bl,bc,br,bi,rfl⟩:=hn.shape
  clear hn hp
  clear hk Re1_g HKe1 xe1 us_xe1 ye1 us_ye1 HPe1
  have l_p:=h_lt HPne2.out.row
  have l_g:=h_lt Re2_g.out
  obtain ⟨i1,hi1,hi2,hi3,hi4⟩:=info52
  have HI:=Lib.hid (And.intro hi1 (And.intro hi2 (And.intro hi3 hi4)))
  clear hi1 hi2 hi3 hi4
  go_upto_region 4 with fail
  refine wp_at (fun W=>Keeps [] e2 W∧W.heap[e2.heap.size]? =some (.cells #[.int .i64 f.kind,.int .i64 f.n,.slice pa f.pats.length pc,.int .i64 f.body.kind,.string bt,.float .f64 bm,.slice ba bl bc,.complex .f64 br bi,.complex .f64 f.re f.im] 60 (0,0))) ⟨(by with_reducible repeat (first|exact k0 _ _|refine kA ?_ _|refine kD ?_|refine kS ?_ (by simp)|refine kM ?_ (by simp))),(by simp only [hS,hA,hD,hM,World.size_setCell,World.size_drew,reduceIte,Option.map_some,Obj.put]<;>rfl)⟩ ?_
  rintro w3 ⟨Kw3,cw3_F⟩
  have n_p_F:p≠e2.heap.size:=Nat.ne_of_lt l_p
  have n_F_p:e2.heap.size≠p:=Nat.ne_of_gt l_p
  have n_g_F:gb≠e2.heap.size:=Nat.ne_of_lt l_g
  have n_F_g:e2.heap.size≠gb:=Nat.ne_of_gt l_g
  have o_F:w.heap.size≤e2.heap.size:=HKe2.out.size
  have g_F:13<e2.heap.size:=Nat.lt_trans g_p l_p
  have ns_x_F:¬(T1) (e2.heap.size):=fun h=>Nat.not_lt_of_le (us_xe2) (up_x _ h)
  have ns_y_F:¬(T2) (e2.heap.size):=fun h=>Nat.not_lt_of_le (us_ye2) (up_y _ h)
  have ns_f_F:¬(Seg e1.heap.size e2.heap.size) (e2.heap.size):=fun h=>Nat.not_lt_of_le ((Nat.le_refl e2.heap.size)) (up_f _ h)
  have Rw3_g:=Lib.hid (Kw3.at Re2_g.out (by simp))
  have HKw3:=Lib.hid (HKe2.out.trans Kw3 (by simp))
  have HPw3:=Lib.hid (HPne2.out.keep Kw3)
  have xw3:=Lib.hid (OwnL.kp ruleL xe2.out Kw3 (by simp))
  have us_xw3:=Nat.le_trans us_xe2 Kw3.size
  have yw3:=Lib.hid (OwnL.kp funcL ye2.out Kw3 (by simp))
  have us_yw3:=Nat.le_trans us_ye2 Kw3.size
  have fw3:=Lib.hid (fe2.out.kp Kw3 (by simp))
  have us_fw3:=Nat.le_trans (Nat.le_refl e2.heap.size) Kw3.size
  have Rw3_F:=Lib.hid cw3_F
  clear Kw3 cw3_F l_p l_g Re2_g HKe2 HPne2 xe2 us_xe2 ye2 us_ye2 fe2
  have l_p:=h_lt HPw3.out.row
  obtain ⟨l_g,xg_0,xg_1,yg_0,yg_1⟩:=cf2 Rw3_g.out
  obtain ⟨l_F,xF_0,xF_1,xF_2,xF_3,xF_4,xF_5,xF_6,xF_7,xF_8,yF_0,yF_1,yF_2,yF_3,yF_4,yF_5,yF_6,yF_7,yF_8⟩:=cf9 Rw3_F.out
  go_region_law (refine step_at (fun W=>Keeps [] w3 W∧W.heap[w3.heap.size]? =some (.cells #[.int .i64 f.kind,.int .i64 f.n,.slice pa f.pats.length pc,.int .i64 f.body.kind,.string bt,.float .f64 bm,.slice ba bl bc,.complex .f64 br bi,.complex .f64 f.re f.im] 60 (0,0))) ⟨(by with_reducible repeat (first|exact k0 _ _|refine kA ?_ _|refine kD ?_|refine kS ?_ (by simp)|refine kM ?_ (by simp))),(by simp only [heap_set_if,heap_alloc_if,heap_drew,World.size_alloc,World.size_setCell,World.size_drew,reduceIte,Option.map_some,Obj.put]<;>rfl)⟩ ?_;rintro wq ⟨hkq,cG⟩;refine step_appL ruleL rfl (.tmp 31) (.tmp 33) 29 rfl Tryz.underlying29 HI.out.1 HI.out.2.1 HI.out.2.2.1 HI.out.2.2.2 rfl (by decide) (by decide) rfl rfl (OwnL.kp ruleL xw3.out hkq (by simp)) (c:= [.int .i64 f.kind,.int .i64 f.n,.slice pa f.pats.length pc,.int .i64 f.body.kind,.string bt,.float .f64 bm,.slice ba bl bc,.complex .f64 br bi,.complex .f64 f.re f.im]) cG (ruleE_of (fw3.out.kp hkq (by simp))) (fun g hs ht=>Nat.not_lt_of_le hs.1 (Nat.lt_of_lt_of_le (up_x g ht) us_x_f)) (fun g hs=>Nat.lt_of_lt_of_le (up_f g hs) (Nat.le_trans us_fw3 hkq.size)) (fun g ht=>Nat.lt_of_lt_of_le (up_x g ht) (Nat.le_trans us_xw3 hkq.size)) (Nat.le_trans (HKw3.out.size) hkq.size) (by omega) ?_;rintro va wa fl hfl hka hown;obtain ⟨ka2,kc2,hva,-⟩:=hown.slice;obtain ⟨kn,hkn⟩:∃k,k=(rs++ [f]).length:=⟨_,rfl⟩;rw [←hkn] at hva;subst hva;have HKN:=Lib.hid hkn;clear hkn;have r_g:=hka.at (hkq.at Rw3_g.out (by simp)) (fun h=>ns_x_g (hfl _ h));have lw_g:=h_lt r_g;have zg_0:=cell_of_heap r_g 0;have zfg_0:=frozen_of_heap r_g 0;have zg_1:=cell_of_heap r_g 1;have zfg_1:=frozen_of_heap r_g 1;simp at zg_0 zg_1)
  all_goals
    have cwq_G:=cG
    clear cG
    have n_p_G:p≠w3.heap.size:=Nat.ne_of_lt l_p
    have n_G_p:w3.heap.size≠p:=Nat.ne_of_gt l_p
    have n_g_G:gb≠w3.heap.size:=Nat.ne_of_lt l_g
    have n_G_g:w3.heap.size≠gb:=Nat.ne_of_gt l_g
    have n_F_G:e2.heap.size≠w3.heap.size:=Nat.ne_of_lt l_F
    have n_G_F:w3.heap.size≠e2.heap.size:=Nat.ne_of_gt l_F
    have o_G:w.heap.size≤w3.heap.size:=HKw3.out.size
    have g_G:13<w3.heap.size:=Nat.lt_trans g_p l_p
    have ns_x_G:¬(T1) (w3.heap.size):=fun h=>Nat.not_lt_of_le (us_xw3) (up_x _ h)
    have ns_y_G:¬(T2) (w3.heap.size):=fun h=>Nat.not_lt_of_le (us_yw3) (up_y _ h)
    have ns_f_G:¬(Seg e1.heap.size e2.heap.size) (w3.heap.size):=fun h=>Nat.not_lt_of_le (us_fw3) (up_f _ h)
    have Rwq_g:=Lib.hid (hkq.at Rw3_g.out (by simp))
    have Rwq_F:=Lib.hid (hkq.at Rw3_F.out (by simp))
    have HKwq:=Lib.hid (HKw3.out.trans hkq (by simp))
    have HPwq:=Lib.hid (HPw3.out.keep hkq)
    have xwq:=Lib.hid (OwnL.kp ruleL xw3.out hkq (by simp))
    have us_xwq:=Nat.le_trans us_xw3 hkq.size
    have ywq:=Lib.hid (OwnL.kp funcL yw3.out hkq (by simp))
    have us_ywq:=Nat.le_trans us_yw3 hkq.size
    have fwq:=Lib.hid (fw3.out.kp hkq (by simp))
    have us_fwq:=Nat.le_trans us_fw3 hkq.size
    have Rwq_G:=Lib.hid cwq_G
    clear hkq cwq_G l_p l_g xg_0 xg_1 yg_0 yg_1 l_F xF_0 xF_1 xF_2 xF_3 xF_4 xF_5 xF_6 xF_7 xF_8 yF_0 yF_1 yF_2 yF_3 yF_4 yF_5 yF_6 yF_7 yF_8 Rw3_g Rw3_F HKw3 HPw3 xw3 us_xw3 yw3 us_yw3 fw3 us_fw3
    have Rwa_g:=Lib.hid (hka.at Rwq_g.out (fun h=>ns_x_g (hfl _ h)))
    have Rwa_F:=Lib.hid (hka.at Rwq_F.out (fun h=>ns_x_F (hfl _ h)))
    have Rwa_G:=Lib.hid (hka.at Rwq_G.out (fun h=>ns_x_G (hfl _ h)))
    have HKwa:=Lib.hid (HKwq.out.trans hka (fun x h=> .inr (dn_x x (hfl x h))))
    have HPwa:=Lib.hid (HPwq.out.keepN hka (fun h=>ns_x_p (hfl _ h)) (fun x h=>Nat.lt_of_lt_of_le g_0 (dn_x x (hfl x h))))
    have us_xwa:=Nat.le_trans us_xwq hka.size
    have ywa:=Lib.hid (OwnL.kp funcL ywq.out hka (fun x h=>dj_x_y x (hfl x h)))
    have us_ywa:=Nat.le_trans us_ywq hka.size
    have us_fwa:=Nat.le_trans us_fwq hka.size
    have us_m0:=us_xwa
    have us_f0:=us_fwa
    have hpack:∃T3:Nat→Prop,OwnL RuleE 60 9 wa w.heap.size T3 (rs++ [f]) (.slice ka2 kn kc2)∧(∀x,T3 x→x<wa.heap.size)∧(∀x,T3 x→w.heap.size≤x)∧(∀x,T2 x→¬T3 x)∧¬T3 (p)∧¬T3 (gb)∧¬T3 (e2.heap.size):=
      ⟨_,hown,fun x h=>h.elim (fun h=>Nat.lt_of_lt_of_le (up_x x h) us_m0) fun h=>h.elim (fun h=>Nat.lt_of_lt_of_le (up_f x h) us_f0) fun h=>h.2,fun x h=>h.elim (dn_x x) fun h=>h.elim (dn_f x) fun h=>Nat.le_trans (HKwq.out.size) h.1,
       fun x ho h=>h.elim (dj_y_x x ho) fun h=>h.elim (fun h=>Nat.not_lt_of_le h.1 (Nat.lt_of_lt_of_le (up_y x ho) us_y_f)) fun h=>Nat.not_lt_of_le h.1 (Nat.lt_of_lt_of_le (up_y x ho) us_ywq),fun h=>h.elim ns_x_p fun h=>h.elim ns_f_p fun h=>Nat.not_lt_of_le h.1 (h_lt HPwq.out.row),fun h=>h.elim ns_x_g fun h=>h.elim ns_f_g fun h=>Nat.not_lt_of_le h.1 (h_lt Rwq_g.out),fun h=>h.elim ns_x_F fun h=>h.elim ns_f_F fun h=>Nat.not_lt_of_le h.1 (h_lt Rwq_F.out)⟩
    obtain ⟨T3,hown2,up_k,dn_k,dj_k,ns_k_p,ns_k_g,ns_k_F⟩:=hpack
    have HL2:=Lib.hid hown2
    clear hown hown2 hka hfl us_xwq ywq us_ywq us_fwq
    have l_p:=h_lt HPwa.out.row
    obtain ⟨l_g,xg_0,xg_1,yg_0,yg_1⟩:=cf2 Rwa_g.out
    have l_F:=h_lt Rwa_F.out
    go_wp2_with fail
    refine calls_at (fun W=>Keeps [gb] wa W∧W.heap[gb]? =some (.cells #[.slice ka2 kn kc2,.slice a2 fs.length c2] 32 (0,0))) ⟨(by with_reducible repeat (first|exact k0 _ _|refine kA ?_ _|refine kD ?_|refine kS ?_ (by simp)|refine kM ?_ (by simp))),(by simp only [hS,hA,hD,hM,reduceIte,Option.map_some,Obj.put,Rwa_g.out,Nat.ne_of_lt l_g,Nat.ne_of_gt l_g]<;>rfl)⟩ ?_
    rintro w4 ⟨Kw4,cw4_g⟩
    have Rw4_F:=Lib.hid (Kw4.at Rwa_F.out (by simp [n_F_g]))
    have HKw4:=Lib.hid (HKwa.out.trans Kw4 (by simp [o_g]))
    have HPw4:=Lib.hid (HPwa.out.keepN Kw4 (by simp [n_p_g]) (by simp [g_g]))
    have us_xw4:=Nat.le_trans us_xwa Kw4.size
    have yw4:=Lib.hid (OwnL.kp funcL ywa.out Kw4 (by simp [ns_y_g]))
    have us_yw4:=Nat.le_trans us_ywa Kw4.size
    have us_fw4:=Nat.le_trans us_fwa Kw4.size
    have kw4:=Lib.hid (OwnL.kp ruleL HL2.out Kw4 (by simp [ns_k_g]))
    have us_kw4:=Nat.le_trans (Nat.le_refl wa.heap.size) Kw4.size
    have Rw4_g:=Lib.hid cw4_g
    clear Kw4 cw4_g l_p l_g xg_0 xg_1 yg_0 yg_1 l_F Rwa_F HKwa HPwa us_xwa ywa us_ywa us_fwa HL2 Rwa_g
    refine (ok_any HPw4.out).mono ?_
    rintro r w' ⟨rfl,hw'⟩
    rw [hw']
    clear hw'
    have l_p:=h_lt HPw4.out.row
    have l_g:=h_lt Rw4_g.out
    have l_F:=h_lt Rw4_F.out
    go_wp2_with fail
    refine ret_at (v:= .tuple #[]) (fun W=>Keeps [] w4 W) (by with_reducible repeat (first|exact k0 _ _|refine kA ?_ _|refine kD ?_|refine kS ?_ (by simp)|refine kM ?_ (by simp))) (fun w5 hW=> ?_) rfl (fun w5 hW=> ?_)
    · have Kw5:Keeps [] w4 w5:=hW
      simp [results,Tryz.results50,go_sem]
    · have Kw5:Keeps [] w4 w5:=hW
      have Rw5_g:=Lib.hid (Kw5.at Rw4_g.out (by simp))
      have Rw5_F:=Lib.hid (Kw5.at Rw4_F.out (by simp))
      have HKw5:=Lib.hid (HKw4.out.trans Kw5 (by simp))
      have HPw5:=Lib.hid (HPw4.out.keep Kw5)
      have us_xw5:=Nat.le_trans us_xw4 Kw5.size
      have yw5:=Lib.hid (OwnL.kp funcL yw4.out Kw5 (by simp))
      have us_yw5:=Nat.le_trans us_yw4 Kw5.size
      have us_fw5:=Nat.le_trans us_fw4 Kw5.size
      have kw5:=Lib.hid (OwnL.kp ruleL kw4.out Kw5 (by simp))
      have us_kw5:=Nat.le_trans us_kw4 Kw5.size
      clear Kw5 l_p l_g l_F Rw4_g Rw4_F HKw4 HPw4 us_xw4 yw4 us_yw4 us_fw4 kw4 us_kw4
      have hkn:=HKN.out
      subst hkn
      exact ⟨rfl,_,_,T3,T2,w5.heap.size,kw5.out,yw5.out,(fun x h=>Nat.lt_of_lt_of_le (up_k x h) us_kw5),(fun x h=>Nat.lt_of_lt_of_le (up_y x h) us_yw5),Nat.le_refl _,dn_k,dn_y,(fun x h h2=>dj_k x h2 h),ns_k_p,ns_y_p,ns_k_g,ns_y_g,n_p_g,o_p,o_g,HPw5.out,HKw5.out,Rw5_g.out⟩
end Go.Proofs.YteafcepaolofpaaGreatDoor
end
section
/- The parser: a rule with a pattern. Made by a program (lvr.py). -/
namespace Go.Proofs.YteafcepaolofpaaGreatDoor
open Go.RowKit
theorem rule_when{s:ByteArray}{p:Nat}{st:PSt}{st1 st3:PSt}{n b:Node}{kd:Int}{tx:ByteArray}{nm fr te:Nat}(ht:nextF s st.pos true=some ⟨kd,tx,nm,fr,te⟩)(hn_BEGIN:notF s st ⟨#[66,69,71,73,78]⟩=some ())(hn_END:notF s st ⟨#[69,78,68]⟩=some ())(hn_GAP:notF s st ⟨#[71,65,80]⟩=some ())(hn_EVERY:notF s st ⟨#[69,86,69,82,89]⟩=some ())(hc:isF s st ⟨#[123]⟩=some false)(hex:Hands s p st st1 n 130)(h44:notF s st1 ⟨#[44]⟩=some ())(hc2:isF s st1 ⟨#[123]⟩=some true)(hb:Hands s p st1 st3 b 128)(w:World)(h:PP s p st w):
    Calls Tryz.prog 81 #[.pointer (some ⟨p,0,none⟩)] w fun r w'=>∃v,r= .returned (.tuple #[v,.bool true])∧RuleV w' (fun g=>w.heap.size≤g) ⟨6,0,[n],b,(placeOf s fr).1,(placeOf s fr).2⟩ v∧PP s p st3 w'∧Keeps [p] w w':=by
  have g_p:=h.p
  have HP0:=Lib.hid h;have HK0:=Lib.hid (Keeps.refl [p] w);have HT:=Lib.hid ht;have HN_BEGIN:=Lib.hid (take_not hn_BEGIN);have HN_END:=Lib.hid (take_not hn_END);have HN_GAP:=Lib.hid (take_not hn_GAP);have HN_EVERY:=Lib.hid (take_not hn_EVERY);have HB:=Lib.hid hc;have HBL:=Lib.hid hb;have HEX:=Lib.hid hex;have H44:=Lib.hid (take_not h44);have HB2:=Lib.hid hc2
  clear h ht hn_BEGIN hn_END hn_GAP hn_EVERY hc hb hex h44 hc2
  go_enter Tryz.func81,Tryz.ntmps81
  have l_p:=h_lt HP0.out.row
  go_wp2_with fail
  refine calls_at (fun W=>Keeps [] w W∧W.heap[w.heap.size]? =some (.cells #[.int .i64 0,.int .i64 0,.slice none 0 0,.int .i64 0,.string ⟨#[]⟩,.float .f64 0,.slice none 0 0,.complex .f64 0 0,.complex .f64 0 0] 60 (0,0))) ⟨(by with_reducible repeat (first|exact k0 _ _|refine kA ?_ _|refine kD ?_|refine kS ?_ (by simp)|refine kM ?_ (by simp))),(by simp only [hS,hA,hD,hM,World.size_setCell,World.size_drew,reduceIte,Option.map_some,Obj.put]<;>rfl)⟩ ?_
  rintro w1 ⟨Kw1,cw1_R⟩
  have n_p_R:p≠w.heap.size:=Nat.ne_of_lt l_p
  have n_R_p:w.heap.size≠p:=Nat.ne_of_gt l_p
  have o_R:w.heap.size≤w.heap.size:=Nat.le_refl _
  have g_R:13<w.heap.size:=Nat.lt_trans g_p l_p
  have HKw1:=Lib.hid (HK0.out.trans Kw1 (by simp))
  have HPw1:=Lib.hid (HP0.out.keep Kw1)
  have Rw1_R:=Lib.hid cw1_R
  clear Kw1 cw1_R l_p HK0 HP0
  refine (here_any HPw1.out HT.out).mono ?_
  rintro r e2 ⟨rfl,hk⟩
  have Re2_R:=Lib.hid (hk.at Rw1_R.out (by simp))
  have HKe2:=Lib.hid (HKw1.out.trans hk (by simp))
  have HPe2:=Lib.hid (HPw1.out.keep hk)
  clear hk Rw1_R HKw1 HPw1
  have l_p:=h_lt HPe2.out.row
  have l_p_1:p<e2.heap.size+1:=Nat.lt_add_right 1 l_p
  have l_p_2:p<e2.heap.size+2:=Nat.lt_add_right 2 l_p
  have l_p_3:p<e2.heap.size+3:=Nat.lt_add_right 3 l_p
  have l_R:=h_lt Re2_R.out
  have l_R_1:w.heap.size<e2.heap.size+1:=Nat.lt_add_right 1 l_R
  have l_R_2:w.heap.size<e2.heap.size+2:=Nat.lt_add_right 2 l_R
  have l_R_3:w.heap.size<e2.heap.size+3:=Nat.lt_add_right 3 l_R
  go_wp2_with fail
  refine wp_at (fun W=>Keeps [] e2 W∧W.heap[e2.heap.size]? =some (.cells #[.int .i64 kd,.string tx,.float .f64 nm,.int .i64 fr,.int .i64 te] 109 (0,0))∧W.heap[e2.heap.size+1]? =some (.cells #[.int .i64 0,.int .i64 0,.slice none 0 0,.int .i64 0,.string ⟨#[]⟩,.float .f64 0,.slice none 0 0,.complex .f64 0 0,.complex .f64 (placeOf s fr).1 (placeOf s fr).2] 60 (0,0))∧W.heap[e2.heap.size+2]? =some (.cells #[.string ⟨#[66,69,71,73,78]⟩,.string ⟨#[69,78,68]⟩,.string ⟨#[71,65,80]⟩] 127 (0,0))∧W.heap[e2.heap.size+3]? =some (.cells #[.int .i64 1,.int .i64 2,.int .i64 4] 191 (0,0))) ⟨(by with_reducible repeat (first|exact k0 _ _|refine kA ?_ _|refine kD ?_|refine kS ?_ (by simp)|refine kM ?_ (by simp))),(by simp only [hS,hA,hD,hM,World.size_alloc,World.size_setCell,World.size_drew,size_mset,Nat.add_right_cancel_iff,Nat.left_eq_add,Nat.add_eq_left,Nat.reduceEqDiff,Nat.add_assoc,Nat.reduceAdd,Nat.one_ne_zero,Nat.zero_ne_one,reduceIte,Option.map_some,Obj.put]<;>rfl),(by simp only [hS,hA,hD,hM,World.size_alloc,World.size_setCell,World.size_drew,size_mset,Nat.add_right_cancel_iff,Nat.left_eq_add,Nat.add_eq_left,Nat.reduceEqDiff,Nat.add_assoc,Nat.reduceAdd,Nat.one_ne_zero,Nat.zero_ne_one,reduceIte,Option.map_some,Obj.put]<;>rfl),(by simp only [hS,hA,hD,hM,World.size_alloc,World.size_setCell,World.size_drew,size_mset,Nat.add_right_cancel_iff,Nat.left_eq_add,Nat.add_eq_left,Nat.reduceEqDiff,Nat.add_assoc,Nat.reduceAdd,Nat.one_ne_zero,Nat.zero_ne_one,reduceIte,Option.map_some,Obj.put]<;>rfl),(by simp only [hS,hA,hD,hM,World.size_alloc,World.size_setCell,World.size_drew,size_mset,Nat.add_right_cancel_iff,Nat.left_eq_add,Nat.add_eq_left,Nat.reduceEqDiff,Nat.add_assoc,Nat.reduceAdd,Nat.one_ne_zero,Nat.zero_ne_one,reduceIte,Option.map_some,Obj.put]<;>rfl)⟩ ?_
  rintro w3 ⟨Kw3,cw3_T,cw3_F,cw3_A,cw3_C⟩
  have n_p_T:p≠e2.heap.size:=Nat.ne_of_lt l_p
  have n_T_p:e2.heap.size≠p:=Nat.ne_of_gt l_p
  have n_R_T:w.heap.size≠e2.heap.size:=Nat.ne_of_lt l_R
  have n_T_R:e2.heap.size≠w.heap.size:=Nat.ne_of_gt l_R
  have o_T:w.heap.size≤e2.heap.size:=HKe2.out.size
  have g_T:13<e2.heap.size:=Nat.lt_trans g_p l_p
  have n_p_F:p≠e2.heap.size+1:=Nat.ne_of_lt (Nat.lt_add_right 1 l_p)
  have n_F_p:e2.heap.size+1≠p:=Nat.ne_of_gt (Nat.lt_add_right 1 l_p)
  have n_R_F:w.heap.size≠e2.heap.size+1:=Nat.ne_of_lt (Nat.lt_add_right 1 l_R)
  have n_F_R:e2.heap.size+1≠w.heap.size:=Nat.ne_of_gt (Nat.lt_add_right 1 l_R)
  have n_T_F:e2.heap.size≠e2.heap.size+1:=by simp
  have n_F_T:e2.heap.size+1≠e2.heap.size:=by simp
  have o_F:w.heap.size≤e2.heap.size+1:=Nat.le_trans (HKe2.out.size) (Nat.le_add_right _ 1)
  have g_F:13<e2.heap.size+1:=Nat.lt_trans g_p (Nat.lt_add_right 1 l_p)
  have n_p_A:p≠e2.heap.size+2:=Nat.ne_of_lt (Nat.lt_add_right 2 l_p)
  have n_A_p:e2.heap.size+2≠p:=Nat.ne_of_gt (Nat.lt_add_right 2 l_p)
  have n_R_A:w.heap.size≠e2.heap.size+2:=Nat.ne_of_lt (Nat.lt_add_right 2 l_R)
  have n_A_R:e2.heap.size+2≠w.heap.size:=Nat.ne_of_gt (Nat.lt_add_right 2 l_R)
  have n_T_A:e2.heap.size≠e2.heap.size+2:=by simp
  have n_A_T:e2.heap.size+2≠e2.heap.size:=by simp
  have n_F_A:e2.heap.size+1≠e2.heap.size+2:=by simp
  have n_A_F:e2.heap.size+2≠e2.heap.size+1:=by simp
  have o_A:w.heap.size≤e2.heap.size+2:=Nat.le_trans (HKe2.out.size) (Nat.le_add_right _ 2)
  have g_A:13<e2.heap.size+2:=Nat.lt_trans g_p (Nat.lt_add_right 2 l_p)
  have n_p_C:p≠e2.heap.size+3:=Nat.ne_of_lt (Nat.lt_add_right 3 l_p)
  have n_C_p:e2.heap.size+3≠p:=Nat.ne_of_gt (Nat.lt_add_right 3 l_p)
  have n_R_C:w.heap.size≠e2.heap.size+3:=Nat.ne_of_lt (Nat.lt_add_right 3 l_R)
  have n_C_R:e2.heap.size+3≠w.heap.size:=Nat.ne_of_gt (Nat.lt_add_right 3 l_R)
  have n_T_C:e2.heap.size≠e2.heap.size+3:=by simp
  have n_C_T:e2.heap.size+3≠e2.heap.size:=by simp
  have n_F_C:e2.heap.size+1≠e2.heap.size+3:=by simp
  have n_C_F:e2.heap.size+3≠e2.heap.size+1:=by simp
  have n_A_C:e2.heap.size+2≠e2.heap.size+3:=by simp
  have n_C_A:e2.heap.size+3≠e2.heap.size+2:=by simp
  have o_C:w.heap.size≤e2.heap.size+3:=Nat.le_trans (HKe2.out.size) (Nat.le_add_right _ 3)
  have g_C:13<e2.heap.size+3:=Nat.lt_trans g_p (Nat.lt_add_right 3 l_p)
  have Rw3_R:=Lib.hid (Kw3.at Re2_R.out (by simp))
  have HKw3:=Lib.hid (HKe2.out.trans Kw3 (by simp))
  have HPw3:=Lib.hid (HPe2.out.keep Kw3)
  have Rw3_T:=Lib.hid cw3_T
  have Rw3_F:=Lib.hid cw3_F
  have Rw3_A:=Lib.hid cw3_A
  have Rw3_C:=Lib.hid cw3_C
  clear Kw3 cw3_T cw3_F cw3_A cw3_C l_p l_p_1 l_p_2 l_p_3 l_R l_R_1 l_R_2 l_R_3 Re2_R HKe2 HPe2
  refine wp_loop_rounds 5 ?_
  rw [rounds_succ]
  have l_p:=h_lt HPw3.out.row
  have l_R:=h_lt Rw3_R.out
  have l_T:=h_lt Rw3_T.out
  have l_F:=h_lt Rw3_F.out
  obtain ⟨l_A,xA_0,xA_1,xA_2,yA_0,yA_1,yA_2⟩:=cf3 Rw3_A.out
  have l_C:=h_lt Rw3_C.out
  go_wp2_with fail
  clear l_p l_R l_T l_F l_A xA_0 xA_1 xA_2 yA_0 yA_1 yA_2 l_C
  refine (take_any HPw3.out HN_BEGIN.out).mono ?_
  rintro r e4 ⟨rfl,hp,hk⟩
  have Re4_R:=Lib.hid (hk.at Rw3_R.out (by simp [n_R_p]))
  have Re4_T:=Lib.hid (hk.at Rw3_T.out (by simp [n_T_p]))
  have Re4_F:=Lib.hid (hk.at Rw3_F.out (by simp [n_F_p]))
  have Re4_A:=Lib.hid (hk.at Rw3_A.out (by simp [n_A_p]))
  have Re4_C:=Lib.hid (hk.at Rw3_C.out (by simp [n_C_p]))
  have HKe4:=Lib.hid (HKw3.out.trans hk (by simp))
  have HPne4:=Lib.hid hp
  clear hp
  clear hk Rw3_R Rw3_T Rw3_F Rw3_A Rw3_C HKw3 HPw3
  have l_p:=h_lt HPne4.out.row
  have l_R:=h_lt Re4_R.out
  have l_T:=h_lt Re4_T.out
  have l_F:=h_lt Re4_F.out
  have l_A:=h_lt Re4_A.out
  have l_C:=h_lt Re4_C.out
  go_wp2_with fail
  clear l_p l_R l_T l_F l_A l_C
  rw [rounds_succ]
  have l_p:=h_lt HPne4.out.row
  have l_R:=h_lt Re4_R.out
  have l_T:=h_lt Re4_T.out
  have l_F:=h_lt Re4_F.out
  obtain ⟨l_A,xA_0,xA_1,xA_2,yA_0,yA_1,yA_2⟩:=cf3 Re4_A.out
  have l_C:=h_lt Re4_C.out
  go_wp2_with fail
  clear l_p l_R l_T l_F l_A xA_0 xA_1 xA_2 yA_0 yA_1 yA_2 l_C
  refine (take_any HPne4.out HN_END.out).mono ?_
  rintro r e5 ⟨rfl,hp,hk⟩
  have Re5_R:=Lib.hid (hk.at Re4_R.out (by simp [n_R_p]))
  have Re5_T:=Lib.hid (hk.at Re4_T.out (by simp [n_T_p]))
  have Re5_F:=Lib.hid (hk.at Re4_F.out (by simp [n_F_p]))
  have Re5_A:=Lib.hid (hk.at Re4_A.out (by simp [n_A_p]))
  have Re5_C:=Lib.hid (hk.at Re4_C.out (by simp [n_C_p]))
  have HKe5:=Lib.hid (HKe4.out.trans hk (by simp))
  have HPne5:=Lib.hid hp
  clear hp
  clear hk Re4_R Re4_T Re4_F Re4_A Re4_C HKe4 HPne4
  have l_p:=h_lt HPne5.out.row
  have l_R:=h_lt Re5_R.out
  have l_T:=h_lt Re5_T.out
  have l_F:=h_lt Re5_F.out
  have l_A:=h_lt Re5_A.out
  have l_C:=h_lt Re5_C.out
  go_wp2_with fail
  clear l_p l_R l_T l_F l_A l_C
  rw [rounds_succ]
  have l_p:=h_lt HPne5.out.row
  have l_R:=h_lt Re5_R.out
  have l_T:=h_lt Re5_T.out
  have l_F:=h_lt Re5_F.out
  obtain ⟨l_A,xA_0,xA_1,xA_2,yA_0,yA_1,yA_2⟩:=cf3 Re5_A.out
  have l_C:=h_lt Re5_C.out
  go_wp2_with fail
  clear l_p l_R l_T l_F l_A xA_0 xA_1 xA_2 yA_0 yA_1 yA_2 l_C
  refine (take_any HPne5.out HN_GAP.out).mono ?_
  rintro r e6 ⟨rfl,hp,hk⟩
  have Re6_R:=Lib.hid (hk.at Re5_R.out (by simp [n_R_p]))
  have Re6_T:=Lib.hid (hk.at Re5_T.out (by simp [n_T_p]))
  have Re6_F:=Lib.hid (hk.at Re5_F.out (by simp [n_F_p]))
  have Re6_A:=Lib.hid (hk.at Re5_A.out (by simp [n_A_p]))
  have Re6_C:=Lib.hid (hk.at Re5_C.out (by simp [n_C_p]))
  have HKe6:=Lib.hid (HKe5.out.trans hk (by simp))
  have HPne6:=Lib.hid hp
  clear hp
  clear hk Re5_R Re5_T Re5_F Re5_A Re5_C HKe5 HPne5
  have l_p:=h_lt HPne6.out.row
  have l_R:=h_lt Re6_R.out
  have l_T:=h_lt Re6_T.out
  have l_F:=h_lt Re6_F.out
  have l_A:=h_lt Re6_A.out
  have l_C:=h_lt Re6_C.out
  go_wp2_with fail
  clear l_p l_R l_T l_F l_A l_C
  rw [rounds_succ]
  have l_p:=h_lt HPne6.out.row
  have l_R:=h_lt Re6_R.out
  have l_T:=h_lt Re6_T.out
  have l_F:=h_lt Re6_F.out
  have l_A:=h_lt Re6_A.out
  have l_C:=h_lt Re6_C.out
  go_wp2_with fail
  clear l_p l_R l_T l_F l_A l_C
  refine (take_any HPne6.out HN_EVERY.out).mono ?_
  rintro r e7 ⟨rfl,hp,hk⟩
  have Re7_R:=Lib.hid (hk.at Re6_R.out (by simp [n_R_p]))
  have Re7_T:=Lib.hid (hk.at Re6_T.out (by simp [n_T_p]))
  have Re7_F:=Lib.hid (hk.at Re6_F.out (by simp [n_F_p]))
  have Re7_A:=Lib.hid (hk.at Re6_A.out (by simp [n_A_p]))
  have Re7_C:=Lib.hid (hk.at Re6_C.out (by simp [n_C_p]))
  have HKe7:=Lib.hid (HKe6.out.trans hk (by simp))
  have HPne7:=Lib.hid hp
  clear hp
  clear hk Re6_R Re6_T Re6_F Re6_A Re6_C HKe6 HPne6
  have l_p:=h_lt HPne7.out.row
  have l_R:=h_lt Re7_R.out
  have l_T:=h_lt Re7_T.out
  obtain ⟨l_F,xF_0,xF_1,xF_2,xF_3,xF_4,xF_5,xF_6,xF_7,xF_8,yF_0,yF_1,yF_2,yF_3,yF_4,yF_5,yF_6,yF_7,yF_8⟩:=cf9 Re7_F.out
  have l_A:=h_lt Re7_A.out
  have l_C:=h_lt Re7_C.out
  go_wp2_with fail
  refine calls_at (fun W=>Keeps [e2.heap.size+1] e7 W∧W.heap[e2.heap.size+1]? =some (.cells #[.int .i64 5,.int .i64 0,.slice none 0 0,.int .i64 0,.string ⟨#[]⟩,.float .f64 0,.slice none 0 0,.complex .f64 0 0,.complex .f64 (placeOf s fr).1 (placeOf s fr).2] 60 (0,0))) ⟨(by with_reducible repeat (first|exact k0 _ _|refine kA ?_ _|refine kD ?_|refine kS ?_ (by simp)|refine kM ?_ (by simp))),(by simp only [hS,hA,hD,hM,reduceIte,Option.map_some,Obj.put,Re7_F.out,Nat.ne_of_lt l_F,Nat.ne_of_gt l_F]<;>rfl)⟩ ?_
  rintro w8 ⟨Kw8,cw8_F⟩
  have Rw8_R:=Lib.hid (Kw8.at Re7_R.out (by simp [n_R_F]))
  have Rw8_T:=Lib.hid (Kw8.at Re7_T.out (by simp [n_T_F]))
  have Rw8_A:=Lib.hid (Kw8.at Re7_A.out (by simp [n_A_F]))
  have Rw8_C:=Lib.hid (Kw8.at Re7_C.out (by simp [n_C_F]))
  have HKw8:=Lib.hid (HKe7.out.trans Kw8 (by simp [o_F]))
  have HPw8:=Lib.hid (HPne7.out.keepN Kw8 (by simp [n_p_F]) (by simp [g_F]))
  have Rw8_F:=Lib.hid cw8_F
  clear Kw8 cw8_F l_p l_R l_T l_F xF_0 xF_1 xF_2 xF_3 xF_4 xF_5 xF_6 xF_7 xF_8 yF_0 yF_1 yF_2 yF_3 yF_4 yF_5 yF_6 yF_7 yF_8 l_A l_C Re7_R Re7_T Re7_A Re7_C HKe7 HPne7 Re7_F
  refine (isF_any HPw8.out HB.out).mono ?_
  rintro r e9 ⟨rfl,hk⟩
  have Re9_R:=Lib.hid (hk.at Rw8_R.out (by simp))
  have Re9_F:=Lib.hid (hk.at Rw8_F.out (by simp))
  have HKe9:=Lib.hid (HKw8.out.trans hk (by simp))
  have HPe9:=Lib.hid (HPw8.out.keep hk)
  clear hk Rw8_R Rw8_T Rw8_F Rw8_A Rw8_C HKw8 HPw8
  have l_p:=h_lt HPe9.out.row
  obtain ⟨l_F,xF_0,xF_1,xF_2,xF_3,xF_4,xF_5,xF_6,xF_7,xF_8,yF_0,yF_1,yF_2,yF_3,yF_4,yF_5,yF_6,yF_7,yF_8⟩:=cf9 Re9_F.out
  have rF:=Re9_F.out
  go_wp2_with fail
  refine calls_at (fun W=>Keeps [e2.heap.size+1] e9 W∧W.heap[e2.heap.size+1]? =some (.cells #[.int .i64 6,.int .i64 0,.slice none 0 0,.int .i64 0,.string ⟨#[]⟩,.float .f64 0,.slice none 0 0,.complex .f64 0 0,.complex .f64 (placeOf s fr).1 (placeOf s fr).2] 60 (0,0))) ⟨kps,celx rF⟩ ?_
  rintro w10 ⟨Kw10,cF⟩
  have Rw10_R:=Lib.hid (Kw10.at Re9_R.out (by simp [n_R_F]))
  have Rw10_F:=Lib.hid cF
  have HKw10:=Lib.hid (HKe9.out.trans Kw10 (by simp [o_F]))
  have HPw10:=Lib.hid (HPe9.out.keepN Kw10 (by simp [n_p_F]) (by simp [g_F]))
  clear Kw10 cF rF l_p l_F xF_0 xF_1 xF_2 xF_3 xF_4 xF_5 xF_6 xF_7 xF_8 yF_0 yF_1 yF_2 yF_3 yF_4 yF_5 yF_6 yF_7 yF_8 Re9_R Re9_F HKe9 HPe9
  refine (HEX.out _ HPw10.out).mono ?_
  rintro r e11 ⟨v,rfl,hn,hp,hk⟩
  have Re11_R:=Lib.hid (hk.at Rw10_R.out (by simp [n_R_p]))
  have Re11_F:=Lib.hid (hk.at Rw10_F.out (by simp [n_F_p]))
  have HKe11:=Lib.hid (HKw10.out.trans hk (by simp))
  have HPe11:=Lib.hid hp
  have NN11:=Lib.hid hn.seg
  have lpn:p<w10.heap.size:=h_lt HPw10.out.row
  have lFn:e2.heap.size+1<w10.heap.size:=h_lt Rw10_F.out
  have lRn:w.heap.size<w10.heap.size:=h_lt Rw10_R.out
  have hwn:w.heap.size≤w10.heap.size:=HKw10.out.size
  have lFB:e2.heap.size+1<e11.heap.size:=h_lt Re11_F.out
  have lRB:w.heap.size<e11.heap.size:=h_lt Re11_R.out
  obtain ⟨pt,pm,pa,pl,pcc,pr,pi,rfl,-,-⟩:=hn.shape
  clear hn hp hk Rw10_R Rw10_F HKw10 HPw10
  have l_p:=h_lt HPe11.out.row
  obtain ⟨l_F,xF_0,xF_1,xF_2,xF_3,xF_4,xF_5,xF_6,xF_7,xF_8,yF_0,yF_1,yF_2,yF_3,yF_4,yF_5,yF_6,yF_7,yF_8⟩:=cf9 Re11_F.out
  have rF:=Re11_F.out
  go_wp2_with fail
  refine calls_at (fun W=>Keeps [e2.heap.size+1] e11 W∧W.heap[e2.heap.size+1]? =some (.cells #[.int .i64 6,.int .i64 0,.slice (some ⟨e11.heap.size,0,none⟩) 1 1,.int .i64 0,.string ⟨#[]⟩,.float .f64 0,.slice none 0 0,.complex .f64 0 0,.complex .f64 (placeOf s fr).1 (placeOf s fr).2] 60 (0,0))∧W.heap[e11.heap.size]? =some (.cells #[.int .i64 n.kind,.string pt,.float .f64 pm,.slice pa pl pcc,.complex .f64 pr pi] 58 (0,0))) ⟨kps,(by simp only [hS,hA,hD,hM,reduceIte,World.size_setCell,World.size_alloc,Option.map_some,Obj.put,rF,Nat.ne_of_lt l_F,Nat.ne_of_gt l_F]<;>rfl),(by simp only [hS,hA,hD,hM,reduceIte,World.size_setCell,World.size_alloc,Option.map_some,Obj.put,rF,Nat.ne_of_lt l_F,Nat.ne_of_gt l_F]<;>rfl)⟩ ?_
  rintro w12 ⟨Kw12,cF,cB⟩
  have n_B_p:e11.heap.size≠p:=Nat.ne_of_gt l_p
  have o_B:w.heap.size≤e11.heap.size:=HKe11.out.size
  have Rw12_R:=Lib.hid (Kw12.at Re11_R.out (by simp [n_R_F]))
  have Rw12_F:=Lib.hid cF;have Rw12_B:=Lib.hid cB
  have HKw12:=Lib.hid (HKe11.out.trans Kw12 (by simp [o_F]))
  have HPw12:=Lib.hid (HPe11.out.keepN Kw12 (by simp [n_p_F]) (by simp [g_F]))
  have NN12:=Lib.hid (NN11.out.kp Kw12 (by simp [Seg];omega))
  clear Kw12 cF cB rF l_p l_F xF_0 xF_1 xF_2 xF_3 xF_4 xF_5 xF_6 xF_7 xF_8 yF_0 yF_1 yF_2 yF_3 yF_4 yF_5 yF_6 yF_7 yF_8 Re11_R Re11_F HKe11 HPe11 NN11
  refine (take_any HPw12.out H44.out).mono ?_
  rintro r e13 ⟨rfl,hp,hk⟩
  have Re13_R:=Lib.hid (hk.at Rw12_R.out (by simp [n_R_p]))
  have Re13_F:=Lib.hid (hk.at Rw12_F.out (by simp [n_F_p]))
  have Re13_B:=Lib.hid (hk.at Rw12_B.out (by simp [n_B_p]))
  have HKe13:=Lib.hid (HKw12.out.trans hk (by simp))
  have HPe13:=Lib.hid hp
  have NN13:=Lib.hid (NN12.out.kp hk (by simp [Seg];omega))
  clear hp hk Rw12_R Rw12_F Rw12_B HKw12 HPw12 NN12
  go_wp2_with fail
  refine (isF_any HPe13.out HB2.out).mono ?_
  rintro r e14 ⟨rfl,hk⟩
  have Re14_R:=Lib.hid (hk.at Re13_R.out (by simp))
  have Re14_F:=Lib.hid (hk.at Re13_F.out (by simp))
  have Re14_B:=Lib.hid (hk.at Re13_B.out (by simp))
  have HKe14:=Lib.hid (HKe13.out.trans hk (by simp))
  have HPe14:=Lib.hid (HPe13.out.keep hk)
  have NN14:=Lib.hid (NN13.out.kp hk (by simp))
  clear hk Re13_R Re13_F Re13_B HKe13 HPe13 NN13
  go_wp2_with fail
  refine (HBL.out _ HPe14.out).mono ?_
  rintro r e15 ⟨v,rfl,hn,hp,hk⟩
  have Re15_R:=Lib.hid (hk.at Re14_R.out (by simp [n_R_p]))
  have Re15_F:=Lib.hid (hk.at Re14_F.out (by simp [n_F_p]))
  have Re15_B:=Lib.hid (hk.at Re14_B.out (by simp [n_B_p]))
  have HKe15:=Lib.hid (HKe14.out.trans hk (by simp))
  have HPe15:=Lib.hid hp
  have NN15:=Lib.hid (NN14.out.kp hk (by simp [Seg];omega))
  have BB15:=Lib.hid hn.seg
  have lFb:e2.heap.size+1<e14.heap.size:=h_lt Re14_F.out
  have lRb:w.heap.size<e14.heap.size:=h_lt Re14_R.out
  have hwb:w.heap.size≤e14.heap.size:=HKe14.out.size
  obtain ⟨bt,bm,ba,bl,bc,br,bi,rfl,-,-⟩:=hn.shape
  clear hn hp hk Re14_R Re14_F Re14_B HKe14 HPe14 NN14
  have l_p:=h_lt HPe15.out.row
  obtain ⟨l_R,xR_0,xR_1,xR_2,xR_3,xR_4,xR_5,xR_6,xR_7,xR_8,yR_0,yR_1,yR_2,yR_3,yR_4,yR_5,yR_6,yR_7,yR_8⟩:=cf9 Re15_R.out
  obtain ⟨l_F,xF_0,xF_1,xF_2,xF_3,xF_4,xF_5,xF_6,xF_7,xF_8,yF_0,yF_1,yF_2,yF_3,yF_4,yF_5,yF_6,yF_7,yF_8⟩:=cf9 Re15_F.out
  go_wp2_with fail
  refine ret_at (v:= .tuple #[.agg #[.int .i64 6,.int .i64 0,.slice (some ⟨e11.heap.size,0,none⟩) 1 1,.int .i64 b.kind,.string bt,.float .f64 bm,.slice ba bl bc,.complex .f64 br bi,.complex .f64 (placeOf s fr).1 (placeOf s fr).2],.bool true]) (fun W=>Keeps [e2.heap.size+1,w.heap.size] e15 W∧W.heap[w.heap.size]? =some (.cells #[.int .i64 6,.int .i64 0,.slice (some ⟨e11.heap.size,0,none⟩) 1 1,.int .i64 b.kind,.string bt,.float .f64 bm,.slice ba bl bc,.complex .f64 br bi,.complex .f64 (placeOf s fr).1 (placeOf s fr).2] 60 (0,0))) ⟨kps,(by simp only [hS,hA,hD,hM,reduceIte,World.size_setCell,World.size_alloc,Option.map_some,Obj.put,Re15_F.out,Re15_R.out,n_F_R,n_R_F,Nat.ne_of_lt l_F,Nat.ne_of_gt l_F,Nat.ne_of_lt l_R,Nat.ne_of_gt l_R]<;>rfl)⟩ (fun w16 hW=> ?_) rfl (fun w16 hW=> ?_)
  · obtain ⟨-,cR⟩:=hW
    have q0:=cell_of_heap cR 0
    have q1:=cell_of_heap cR 1
    have q2:=cell_of_heap cR 2
    have q3:=cell_of_heap cR 3
    have q4:=cell_of_heap cR 4
    have q5:=cell_of_heap cR 5
    have q6:=cell_of_heap cR 6
    have q7:=cell_of_heap cR 7
    have q8:=cell_of_heap cR 8
    simp at q0 q1 q2 q3 q4 q5 q6 q7 q8
    simp [results,Tryz.results81,go_sem,q0,q1,q2,q3,q4,q5,q6,q7,q8]
  · obtain ⟨Kw16,-⟩:=hW
    have hB16:=Kw16.at Re15_B.out (by simp;omega)
    have NN16:=NN15.out.kp Kw16 (by simp [Seg];omega)
    have BB16:=BB15.out.kp Kw16 (by simp [Seg];omega)
    exact ⟨_,rfl,⟨_,_,_,_,_,_,_,rfl,.some o_B (h_lt hB16) (row1 NN16 (fun x hx=>Nat.le_trans hwn hx.1) hB16),BB16.to fun x hx=>Nat.le_trans hwb hx.1⟩,HPe15.out.keepN Kw16 (by simp [n_p_F,n_p_R]) (by simp [g_F,g_R]),HKe15.out.trans Kw16 (by simp [o_F,o_R])⟩
end Go.Proofs.YteafcepaolofpaaGreatDoor
end
