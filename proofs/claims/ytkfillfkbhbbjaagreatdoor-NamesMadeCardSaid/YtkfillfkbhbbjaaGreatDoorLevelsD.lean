/- Plan, ParE, ParF, ParG, ParH, Nodes, Levels, LevelsB, LevelsC, LevelsD. -/
import Derived.Test.YtkfillfkbhbbjaaGreatDoorParD
set_option maxRecDepth 100000
set_option maxHeartbeats 4000000
set_option linter.unusedSimpArgs false
set_option linter.unusedVariables false
namespace Go.Proofs.YtkfillfkbhbbjaaGreatDoor
inductive Af where
 |mk (kind:Int) (name:ByteArray) (num:Nat) (kids:List Af) (re im:Nat)
def Af.kind:Af→Int
 | .mk k _ _ _ _ _=>k
def Af.re:Af→Nat
 | .mk _ _ _ _ re _=>re
def Af.im:Af→Nat
 | .mk _ _ _ _ _ im=>im
def Hn(n:Af):Bool:=n.kind==4||n.kind==5||n.kind==6
def Xy(s:ByteArray)(st:Bq)(sg:ByteArray):Option (Option (ByteArray×Nat×Nat)×Bq):=do
 let t ←Be s st.pos false
 if t.kind==9&&Gj sg t.text then some (some (t.text,Ag s t.fr),⟨t.to,st.opn,st.ng⟩) else some (none,st)
def En(s:ByteArray)(st:Bq)(sg:ByteArray):Option Unit:=do
 let x ←Xy s st sg
 match x.1 with
 |none=>some ()
 |some _=>none
def AW(s:ByteArray)(st:Bq)(x:ByteArray):Option Bool:=do
 let t ←Be s st.pos false
 some (Ya t x)
def Dv(s:ByteArray)(st:Bq)(x:ByteArray):Option Unit:=do
 let b ←AW s st x
 if b then none else some ()
def Zg(s:ByteArray)(st:Bq)(op:Bool):Option (Ud×Nat×Nat):=do
 let t ←Be s st.pos op
 some (t,Ag s t.fr)
def Sp(s:ByteArray)(st:Bq)(also:ByteArray):Option Bq:=Lz s also (s.size+2) st
def EC:ByteArray:=bs [36,32,40,32,43,43,32,45,45]
def JA(s:ByteArray)(st:Bq):Option Bool:=do
 let t ←Be s st.pos false
 if t.kind=2∨t.kind=3∨t.kind=5∨t.kind=6∨t.kind=7 then some true
 else if t.kind=9 then some (Gj EC t.text) else some false
inductive Wh where
 |expr|cond|or|and|in|match|compare|concat|sum|product|unary|power|post|primary|operand|dollar
 |simple|stmt|block
abbrev Zx:=Wh→Bq→Option (Af×Bq)
def Yu:ByteArray:=bs [43,32,45]
def ZI:ByteArray:=bs [42,32,47,32,37]
def XM:ByteArray:=bs [43,43,32,45,45]
def assigns:ByteArray:=bs [61,32,43,61,32,45,61,32,42,61,32,47,61,32,37,61,32,94,61]
def compares:ByteArray:=bs [60,32,60,61,32,61,61,32,33,61,32,62,61,32,62]
def Zc(s:ByteArray)(rec:Zx):Nat→List Af→Bq→Option (List Af×Bq)
 |0,_,_=>none
 | f+1,l,st=>do
   let (b,st) ←He s st (bs [44])
   if b then none else some (l,st)
def OZ(s:ByteArray)(rec:Zx)(top:Bool)(st:Bq):Option (List Af×Bq):=do
 if st.ng then none else do
 let (n,st1) ←rec .expr ⟨st.pos,st.opn,st.ng&&top⟩
 let (l,st2) ←Zc s rec 50 [n] st1
 some (l,⟨st2.pos,st2.opn,st.ng⟩)
def Uv(s:ByteArray)(rec:Zx):Nat→Af→Bq→Option (Af×Bq)
 |0,_,_=>none
 | f+1,n,st=>do
   let b ←JA s st
   if b then none else some (n,st)
def NA(s:ByteArray)(rec:Zx):Nat→Af→Bq→Option (Af×Bq)
 |0,_,_=>none
 | f +1,n,st=>do
   let (x,st) ←Xy s st Yu
   match x with
   |none=>some (n,st)
   | some (x,re,im)=>do
     let (m,st) ←rec .product st
     NA s rec f (.mk 15 x 0 [n,m] re im) st
def Ry(s:ByteArray)(rec:Zx):Nat→List Af→Bq→Option (List Af×Bq)
 |0,_,_=>none
 | f+1,l,st=>do
   let b ←AW s st (bs [125])
   if b then some (l,st) else do
    let (n,st) ←rec .stmt st
    let st ←Sp s st (bs [59])
    Ry s rec f (l++ [n]) st
def VF(s:ByteArray)(st:Bq):Option Bq:=do
 let t ←Be s st.pos false
 if t.kind=0 then none else do
  let b ←AW s st (bs [125])
  if b then some st
  else if t.kind=9∧same t.text (bs [59])=true then some ⟨t.to,st.opn,st.ng⟩ else none
def step(s:ByteArray)(rec:Zx):Zx
 | .expr,st=>do
   let (n,st) ←rec .cond st
   if Hn n then do
    let (x,st) ←Xy s st assigns
    match x with
    |none=>some (n,st)
    | some (x,re,im)=>do
      let (m,st) ←rec .expr st
      some (.mk 7 x 0 [n,m] re im,st)
   else some (n,st)
 | .cond,st=>do
   let (n,st) ←rec .or st
   En s st (bs [63])
   some (n,st)
 | .or,st=>do
   let (n,st) ←rec .and st
   En s st (bs [124,124])
   some (n,st)
 | .and,st=>do
   let (n,st) ←rec .in st
   En s st (bs [38,38])
   some (n,st)
 | .in,st=>do
   let (n,st) ←rec .match st
   Dv s st (bs [105,110])
   some (n,st)
 | .match,st=>do
   let (n,st) ←rec .compare st
   En s st (bs [126,32,33,126])
   some (n,st)
 | .compare,st=>do
   let (n,st) ←rec .concat st
   if st.ng then none else do
   En s st compares
   some (n,st)
 | .concat,st=>do
   let (n,st) ←rec .sum st
   Uv s rec 50 n st
 | .sum,st=>do
   let (n,st) ←rec .product st
   NA s rec 50 n st
 | .product,st=>do
   let (n,st) ←rec .unary st
   En s st ZI
   some (n,st)
 | .unary,st=>do
   En s st (bs [33,32,45,32,43])
   rec .power st
 | .power,st=>do
   let (n,st) ←rec .post st
   En s st (bs [94])
   some (n,st)
 | .post,st=>do
   let (n,st) ←rec .primary st
   if Hn n then do
    let (x,st) ←Xy s st XM
    match x with
    |none=>some (n,st)
    |some (x,re,im)=>some (.mk 18 x 0 [n] re im,st)
   else some (n,st)
 | .primary,st=>do
   En s st XM
   Dv s st (bs [40])
   rec .operand st
 | .operand,st=>do
   let t ←Be s st.pos true
   let (re,im):=Ag s t.fr
   if t.kind=2 then some (.mk 1 (bs []) t.num [] re im,⟨t.to,st.opn,st.ng⟩)
   else if t.kind=5 then do
    let (b,st) ←He s ⟨t.to,st.opn,st.ng⟩ (bs [91])
    if b then do
     let (l,st) ←OZ s rec false st
     let st ←Ti s st (bs [93])
     some (.mk 5 t.text 0 l re im,st)
    else some (.mk 4 t.text 0 [] re im,st)
   else if t.kind=9∧same t.text (bs [36])=true then do
    let (n,st) ←rec .dollar ⟨t.to,st.opn,st.ng⟩
    some (.mk 6 (bs []) 0 [n] re im,st)
   else none
 | .dollar,st=>do
   En s st XM
   Dv s st (bs [40])
   rec .operand st
 | .simple,st=>do
   let (_,re,im) ←Zg s st true
   Dv s st (bs [98,114,101,97,107])
   Dv s st (bs [99,111,110,116,105,110,117,101])
   let (b,st) ←He s st (bs [110,101,120,116])
   if b then some (.mk 38 (bs []) 0 [] re im,st) else do
    Dv s st (bs [101,120,105,116])
    Dv s st (bs [114,101,116,117,114,110])
    Dv s st (bs [100,101,108,101,116,101])
    let (b,st) ←He s st (bs [112,114,105,110,116])
    if b then none
    else do
     Dv s st (bs [112,114,105,110,116,102])
     let (n,st) ←rec .expr st
     some (.mk 44 (bs []) 0 [n] n.re n.im,st)
 | .stmt,st=>do
   let _ ←Zg s st true
   Dv s st (bs [123])
   Dv s st (bs [105,102])
   Dv s st (bs [119,104,105,108,101])
   Dv s st (bs [100,111])
   Dv s st (bs [102,111,114])
   let (n,st) ←rec .simple st
   let st ←VF s st
   some (n,st)
 | .block,st=>do
   let (_,re,im) ←Zg s st false
   let st ←Ti s st (bs [123])
   let st ←Sp s st (bs [59])
   let (l,st) ←Ry s rec 50 [] st
   let st ←Ti s st (bs [125])
   some (.mk 30 (bs []) 0 l re im,st)
def FR(s:ByteArray):Nat→Zx
 |0=>fun _ _=>none
 |n+1=>step s (FR s n)
structure Cy where
 kind:Int
 n:Int
 pats:List Af
 body:Af
 re:Nat
 im:Nat
structure Az where
 name:ByteArray
 params:List ByteArray
 body:Af
 re:Nat
 im:Nat
structure Ah where
 rules:List Cy
 funcs:List Az
def CI(s:ByteArray)(rec:Zx)(st:Bq):Option (Cy×Bq):=do
 let (_,re,im) ←Zg s st true
 let (b,st) ←He s st (bs [66,69,71,73,78])
 if b then do
  let (n,st) ←rec .block st
  some (⟨1,0,[],n,re,im⟩,st)
 else do
  Dv s st (bs [69,78,68])
  Dv s st (bs [71,65,80])
  Dv s st (bs [69,86,69,82,89])
  let c ←AW s st (bs [123])
  if c then do
   let (n,st) ←rec .block st
   some (⟨5,0,[],n,re,im⟩,st)
  else none
def Pr(s:ByteArray)(rec:Zx):Nat→Ah→Bq→Option Ah
 |0,_,_=>none
 | f +1,g,st=>do
   let st ←Sp s st (bs [59])
   let t ←Be s st.pos true
   if t.kind=0 then some g else do
    let b ←AW s st (bs [102,117,110,99,116,105,111,110])
    if b then none
    else do
     let (x,st) ←CI s rec st
     Pr s rec f ⟨g.rules++ [x],g.funcs⟩ st
def Pm(s:ByteArray):Option Ah:=if s.size≤4096 then Pr s (FR s 100) 50 ⟨[],[]⟩ ⟨0,0,false⟩ else none
end Go.Proofs.YtkfillfkbhbbjaaGreatDoor
namespace Go.Proofs.YtkfillfkbhbbjaaGreatDoor
open Go.RowKit
@[go_sem] theorem run_store_float {P:Program} {w:World} {a:Addr} {m:Mode} (k:FloatKind) (n:Nat):(store a (.float k n) m).run P w=stored P w a (.float k n) m:=run_store P w a _ m rfl
@[go_sem] theorem run_store_complex {P:Program} {w:World} {a:Addr} {m:Mode} (k:FloatKind) (x y:Nat):(store a (.complex k x y) m).run P w=stored P w a (.complex k x y) m:=run_store P w a _ m rfl
theorem Bd{P:Program}{ops:Array Oper}{o:Oper}{a:Act}{w:World}{K:Act→World→Prop}{Q:Exit→Act→World→Prop}{E:Prop}(hg:o.guard=none){f:FuncId}{vals:Array Value}(c:Call)(_ho:o.op= .call c)(hrun:(execOp a.eval o).run P w= .ok (.enter f vals) w){R:Value→World→Prop}(hc:Calls P f vals w fun e w'=>∃v,e= .returned v∧R v w')(hK:∀v w',R v w'→K (a.put o.dst v) w'):if Region.wanted o (yielded ops a.tmps)=true then Oper.wp P o a w K Q else E:=by
 rw [if_pos (by simp [Region.wanted,hg])];unfold Oper.wp;rw [hrun,Oper.upon_enter];exact zkb
theorem Lk{w W:World}(h:Ac [] w W){b i:Nat}{u:Value}(hb:w.heap.size≤b):Ac [] w (W.setCell ⟨b,i,none⟩ u):=
 h.trans (fp':= [b]) (Ac.setCell _ _ _ _ qg) (by simpa using hb)
theorem Hs{w W:World}(h:Ac [] w W)(o:Obj):Ac [] w (W.alloc o):=h.trans (Ac.alloc [] W o) qg
theorem Md{w W:World}(h:Ac [] w W):Ac [] w W.drew:=h.trans (Ac.drew [] W) qg
theorem ZF{W:World}{b:Nat}(h:W.heap[b]? =some (By 0 ⟨#[]⟩ 0 0 0))(kd:Int)(tx:ByteArray)(nm:Nat)(fr te:Int):(((((W.setCell ⟨b,0,none⟩ (.int .i64 kd)).setCell ⟨b,1,none⟩ (.string tx)).setCell ⟨b,2,none⟩ (.float .f64 nm)).setCell ⟨b,3,none⟩ (.int .i64 fr)).setCell ⟨b,4,none⟩ (.int .i64 te)).heap[b]? =some (By kd tx nm fr te)∧(∀k x,k≠b→W.heap[k]? =some x→(((((W.setCell ⟨b,0,none⟩ (.int .i64 kd)).setCell ⟨b,1,none⟩ (.string tx)).setCell ⟨b,2,none⟩ (.float .f64 nm)).setCell ⟨b,3,none⟩ (.int .i64 fr)).setCell ⟨b,4,none⟩ (.int .i64 te)).heap[k]? =some x)∧∀w,Ac [] w W→w.heap.size≤b→Ac [] w (((((W.setCell ⟨b,0,none⟩ (.int .i64 kd)).setCell ⟨b,1,none⟩ (.string tx)).setCell ⟨b,2,none⟩ (.float .f64 nm)).setCell ⟨b,3,none⟩ (.int .i64 fr)).setCell ⟨b,4,none⟩ (.int .i64 te)):=by
 refine ⟨?_,fun k x hk hx=> ?_,fun w hk hb=> ?_⟩
 ·have:=Di (i:=4) (u:= .int .i64 te) (Di (i:=3) (u:= .int .i64 fr) (Di (i:=2) (u:= .float .f64 nm) (Di (i:=1) (u:= .string tx) (Di (i:=0) (u:= .int .i64 kd) h))))
  simpa using this
 ·exact Ds hk (Ds hk (Ds hk (Ds hk (Ds hk hx))))
 exact Lk (Lk (Lk (Lk (Lk hk hb) hb) hb) hb) hb
theorem Kl{s:ByteArray}{p:Nat}{st:Bq}{w:World}(h:PP s p st w){op:Bool}{t:Ud}(ht:Be s st.pos op=some t):Calls Tryz.prog 36 #[.pointer (some ⟨p,0,none⟩),.bool op] w fun r w'=>r= .returned (Ms t)∧Ac [] w w':=by
 have c0:=Aa h.row 0;have c1:=Aa h.row 1;simp at c0 c1;have hlt:=Ad h.row;have hN:∀W,Ac [] w W→Calls Tryz.prog 62 #[.string s,.int .i64 st.pos,.bool op] W fun r w'=>∃v,r= .returned v∧(v= .tuple #[Ms t,.int .i64 0]∧Ac [] W w'):=fun W hk=>(Wa (h.gl.keep hk qg) ht h.le zbb).mono fun r w' ⟨hr,hk⟩=>⟨_,hr,rfl,hk⟩
 have HN:=zh hN;clear h hN ht;obtain ⟨kd,tx,nm,fr,te⟩:=t;obtain ⟨pos,opn,ng⟩:=st
 go_enter Tryz.func36,Tryz.ntmps36
 go_upto_region 1 with fail
 go_cut [5,6] (fun s5 s6 wx=>∃b,s5= .pointer (some ⟨b,0,none⟩)∧s6= .int .i64 0∧w.heap.size<b∧wx.heap[b]? =some (By kd tx nm fr te)∧wx.heap[w.heap.size]? =some (By 0 ⟨#[]⟩ 0 0 0)∧Ac [] w wx)
 case first=>
  exact qtd
 obtain ⟨b,rfl,rfl,hb,hr,hq,hk⟩:=hcut;have x0:=Aa hr 0;have x1:=Aa hr 1;have x2:=Aa hr 2;have x3:=Aa hr 3;have x4:=Aa hr 4;simp at x0 x1 x2 x3 x4;have HQ:=zh hq;have HK:=zh hk;clear hr hq hk
 go_wp2_with ((with_reducible show wpList _ _ _ (Oper.mk none (.store 90 _ _) _ _ _ _::_) _ _);refine Oa 90 w.heap.size 0 _ HQ.1 rfl (.agg #[.int .i64 kd,.string tx,.float .f64 nm,.int .i64 fr,.int .i64 te]) rfl qh jj ji ?_)
 intro w3 hs3;have y0:=Aa hs3.row 0;have y1:=Aa hs3.row 1;have y2:=Aa hs3.row 2;have y3:=Aa hs3.row 3;have y4:=Aa hs3.row 4;simp at y0 y1 y2 y3 y4;have HK3:=zh (HK.1.trans hs3.keeps qg);clear hs3 x0 x1 x2 x3 x4
 go_wp2_with fail
 exact bodyPost_ret (v:= .agg #[.int .i64 kd,.string tx,.float .f64 nm,.int .i64 fr,.int .i64 te]) (by simp [results,Jo,go_sem,y0,y1,y2,y3,y4]) rfl ⟨rfl,HK3.1⟩
theorem PP.put{s:ByteArray}{p:Nat}{st:Bq}{W:World}(h:PP s p st W){te:Nat}(ht:te≤s.size):PP s p ⟨te,st.opn,st.ng⟩ (W.setCell ⟨p,1,none⟩ (.int .i64 te))∧Ac [p] W (W.setCell ⟨p,1,none⟩ (.int .i64 te)):=by
 have hk:Ac [p] W (W.setCell ⟨p,1,none⟩ (.int .i64 te)):=Ac.setCell _ _ _ _ qg;refine ⟨⟨h.gl.keep hk (by have:=h.p;simpa using this), ?_,h.p,h.size,ht,h.ob⟩,hk⟩;have:=Di (i:=1) (u:= .int .i64 te) h.row
 simpa using this
theorem PP.keepN{s:ByteArray}{p:Nat}{st:Bq}{w w':World}(h:PP s p st w){fp:List Nat}(hk:Ac fp w w')(hp:p∉fp)(hf:∀x∈fp,14<x):PP s p st w':=
 ⟨h.gl.keep hk hf,hk.at h.row hp,h.p,h.size,h.le,h.ob⟩
theorem Ac.nil{w w':World}(h:Ac [] w w')(p:Nat):Ac [p] w w':=h.weaken qg
theorem TM{s:ByteArray}{p:Nat}{st:Bq}{w:World}(h:PP s p st w){t:Ud}(ht:Be s st.pos false=some t)(sg:ByteArray)(hsg:sg.size≤1000000)(h9:¬t.kind=9):Calls Tryz.prog 132 #[.pointer (some ⟨p,0,none⟩),.string sg] w fun r w'=>r= .returned (.tuple #[.string ⟨#[]⟩,.complex .f64 0 0,.bool false])∧Ac [] w w':=by
 have H:=zh h;have HT:=zh ht;clear h ht;obtain ⟨kd,tx,nm,fr,te⟩:=t;simp only at h9;have n9:(kd==9)=false:=beq_false_of_ne h9;have n9':(kd !=9)=true:=by simp [h9]
 have c1:=Aa H.1.row 1;simp at c1;have hlt:=Ad H.1.row
 go_enter Tryz.func132,Tryz.ntmps132
 go_wp2_with fail
 refine MV ?_;rintro r w' ⟨rfl,hw'⟩;rw [hw'];clear hw'
 go_wp2_with fail
 refine RU ?_;rintro r w1 ⟨rfl,hk1⟩;have HP1:=zh (H.1.keep hk1);have HK1:=zh hk1;clear hk1 c1
 go_wp2_with ((with_reducible show wpList _ _ _ (Oper.mk none (.store 90 _ _) _ _ _ _::_) _ _);refine Oa 90 w1.heap.size 0 _ (Ca _ _) rfl (.agg #[.int .i64 kd,.string tx,.float .f64 nm,.int .i64 fr,.int .i64 te]) rfl qh jj ji ?_)
 intro w2 hs2;have x0:=Aa hs2.row 0;have x1:=Aa hs2.row 1;have x2:=Aa hs2.row 2;have x3:=Aa hs2.row 3;have x4:=Aa hs2.row 4;simp at x0 x1 x2 x3 x4;have hsz2:=HK1.1.size;have HTR2:=zh hs2.row;have hst2:Ac [] w1 w2:=(Ac.alloc [] w1 (By 0 ⟨#[]⟩ 0 0 0)).trans hs2.keeps qg;have HST2:=zh hst2;have HK2:=zh (HK1.1.trans hst2 qg);clear hs2 hst2;have HP2:=zh (HP1.1.keep HST2.1)
 go_wp2_with fail
 exact jkb
theorem TL{s:ByteArray}{p:Nat}{st:Bq}{w:World}(h:PP s p st w){t:Ud}(ht:Be s st.pos false=some t)(sg:ByteArray)(hsg:sg.size≤1000000)(h9:t.kind=9)(ha:Gj sg t.text=false):Calls Tryz.prog 132 #[.pointer (some ⟨p,0,none⟩),.string sg] w fun r w'=>r= .returned (.tuple #[.string ⟨#[]⟩,.complex .f64 0 0,.bool false])∧Ac [] w w':=by
 have H:=zh h;have HT:=zh ht;clear h ht;obtain ⟨kd,tx,nm,fr,te⟩:=t;simp only at h9 ha;subst h9;have hA:=fun W=>Fl sg tx hsg W
 rw [ha] at hA;have HA:=zh hA;clear hA ha;have c1:=Aa H.1.row 1;simp at c1;have hlt:=Ad H.1.row
 go_enter Tryz.func132,Tryz.ntmps132
 go_wp2_with fail
 refine MV ?_;rintro r w' ⟨rfl,hw'⟩;rw [hw'];clear hw'
 go_wp2_with fail
 refine RU ?_;rintro r w1 ⟨rfl,hk1⟩;have HP1:=zh (H.1.keep hk1);have HK1:=zh hk1;clear hk1 c1
 go_wp2_with ((with_reducible show wpList _ _ _ (Oper.mk none (.store 90 _ _) _ _ _ _::_) _ _);refine Oa 90 w1.heap.size 0 _ (Ca _ _) rfl (.agg #[.int .i64 9,.string tx,.float .f64 nm,.int .i64 fr,.int .i64 te]) rfl qh jj ji ?_)
 intro w2 hs2;have x0:=Aa hs2.row 0;have x1:=Aa hs2.row 1;have x2:=Aa hs2.row 2;have x3:=Aa hs2.row 3;have x4:=Aa hs2.row 4;simp at x0 x1 x2 x3 x4;have hsz2:=HK1.1.size;have HTR2:=zh hs2.row;have hst2:Ac [] w1 w2:=(Ac.alloc [] w1 (By 0 ⟨#[]⟩ 0 0 0)).trans hs2.keeps qg;have HST2:=zh hst2;have HK2:=zh (HK1.1.trans hst2 qg);clear hs2 hst2;have HP2:=zh (HP1.1.keep HST2.1)
 go_wp2_with fail
 refine (HA.1 _).mono ?_;rintro r w' ⟨rfl,hw'⟩;rw [hw'];clear hw'
 go_wp2_with fail
 exact jkb
theorem AN{s:ByteArray}{p:Nat}{st:Bq}{w:World}(h:PP s p st w){t:Ud}(ht:Be s st.pos false=some t)(sg:ByteArray)(hsg:sg.size≤1000000)(h9:t.kind=9)(ha:Gj sg t.text=true):Calls Tryz.prog 132 #[.pointer (some ⟨p,0,none⟩),.string sg] w fun r w'=>r= .returned (.tuple #[.string t.text,.complex .f64 (Ag s t.fr).1 (Ag s t.fr).2,.bool true])∧PP s p ⟨t.to,st.opn,st.ng⟩ w'∧Ac [p] w w':=by
 obtain ⟨le1,le2,le3⟩:=Eo ht h.le;have H:=zh h;have HT:=zh ht;clear h ht;obtain ⟨kd,tx,nm,fr,te⟩:=t;simp only at h9 ha le1 le2 le3;subst h9;have hA:=fun W=>Fl sg tx hsg W
 rw [ha] at hA;have HA:=zh hA;clear hA ha;have c1:=Aa H.1.row 1;simp at c1;have hlt:=Ad H.1.row
 go_enter Tryz.func132,Tryz.ntmps132
 go_wp2_with fail
 refine MV ?_;rintro r w' ⟨rfl,hw'⟩;rw [hw'];clear hw'
 go_wp2_with fail
 refine RU ?_;rintro r w1 ⟨rfl,hk1⟩;have HP1:=zh (H.1.keep hk1);have HK1:=zh hk1;clear hk1 c1
 go_wp2_with ((with_reducible show wpList _ _ _ (Oper.mk none (.store 90 _ _) _ _ _ _::_) _ _);refine Oa 90 w1.heap.size 0 _ (Ca _ _) rfl (.agg #[.int .i64 9,.string tx,.float .f64 nm,.int .i64 fr,.int .i64 te]) rfl qh jj ji ?_)
 intro w2 hs2;have x0:=Aa hs2.row 0;have x1:=Aa hs2.row 1;have x2:=Aa hs2.row 2;have x3:=Aa hs2.row 3;have x4:=Aa hs2.row 4;simp at x0 x1 x2 x3 x4;have hsz2:=HK1.1.size;have HTR2:=zh hs2.row;have hst2:Ac [] w1 w2:=(Ac.alloc [] w1 (By 0 ⟨#[]⟩ 0 0 0)).trans hs2.keeps qg;have HST2:=zh hst2;have HK2:=zh (HK1.1.trans hst2 qg);clear hs2 hst2;have HP2:=zh (HP1.1.keep HST2.1);have n1:p≠w1.heap.size:=by omega
 have n2:w1.heap.size≠p:=by omega
 have c1:=Aa HP2.1.row 1;have f1:=Ab HP2.1.row 1;simp at c1;have hl3:p<w2.heap.size:=Ad HP2.1.row
 go_wp2_with fail
 refine (HA.1 _).mono ?_;rintro r w' ⟨rfl,hw'⟩;rw [hw'];clear hw'
 go_upto_region 7 with fail
 obtain ⟨hp3,hk3⟩:=HP2.1.put le2;have x0':=x0;have hr3:=hk3.at HTR2.1 qi;have z0:=Aa hr3 0;have z1:=Aa hr3 1;have z2:=Aa hr3 2;have z3:=Aa hr3 3;have z4:=Aa hr3 4;simp at z0 z1 z2 z3 z4;have HK3:=zh ((HK2.1.nil p).trans hk3 qg);have HP3:=zh hp3;clear hp3 hk3 x0 x1 x2 x3 x4 x0' hr3 c1 f1;generalize w2.setCell ⟨p,1,none⟩ (.int .i64 te)=w3 at*
 have hpl:∀W,Ac [] w3 W→Calls Tryz.prog 126 #[.pointer (some ⟨p,0,none⟩),Ms ⟨9,tx,nm,fr,te⟩] W fun r w'=>∃v,r= .returned v∧(v= .complex .f64 (Ag s fr).1 (Ag s fr).2∧Ac [] W w'):=fun W hk=>(Ji (HP3.1.keep hk) ⟨9,tx,nm,fr,te⟩ ZZ).mono fun r w' ⟨hr,hk⟩=>⟨_,hr,rfl,hk⟩
 have HPL:=zh hpl;clear hpl;have hb3:w1.heap.size<w3.heap.size:=World.block_lt_of_cell? w3 ⟨w1.heap.size,0,none⟩ z0;generalize hpc:Ag s fr=pc at*
 obtain ⟨p1,p2⟩:=pc
 go_region_law ((refine Bd (f:=126) (vals:= #[.pointer (some ⟨p,0,none⟩),Ms ⟨9,tx,nm,fr,te⟩]) rfl _ rfl qh (HPL.1 _ (by first|exact Ac.drew [] w3|exact Ac.refl [] w3)) ?_;rintro v w4 ⟨rfl,hk4⟩;have u0:=hk4.cell (by simpa using hb3) z0;have u1:=hk4.cell (by simpa using hb3) z1;have hkw:Ac [] w3 w4:=(by first|exact (Ac.drew [] w3).trans hk4 qg|exact hk4)))
 all_goals
  have hfin:PP s p ⟨te,st.opn,st.ng⟩ w4∧Ac [p] w w4:=⟨HP3.1.keep hkw,HK3.1.trans hkw qg⟩;have HF:=zh hfin;clear hfin hkw hk4 u0 u1
  go_wp2_with fail
  exact bodyPost_ret (v:= .tuple #[.string tx,.complex .f64 p1 p2,.bool true]) jq rfl ⟨rfl,HF.1.1,HF.1.2⟩
theorem PL{s:ByteArray}{p:Nat}{st:Bq}{w:World}(h:PP s p st w){op:Bool}{t:Ud}(ht:Be s st.pos op=some t):Calls Tryz.prog 103 #[.pointer (some ⟨p,0,none⟩),.bool op] w fun r w'=>r= .returned (.tuple #[Ms t,.complex .f64 (Ag s t.fr).1 (Ag s t.fr).2])∧Ac [] w w':=by
 have c0:=Aa h.row 0;have c1:=Aa h.row 1;simp at c0 c1;have hlt:=Ad h.row;have hN:∀W,Ac [] w W→Calls Tryz.prog 62 #[.string s,.int .i64 st.pos,.bool op] W fun r w'=>∃v,r= .returned v∧(v= .tuple #[Ms t,.int .i64 0]∧Ac [] W w'):=fun W hk=>(Wa (h.gl.keep hk qg) ht h.le zbb).mono fun r w' ⟨hr,hk⟩=>⟨_,hr,rfl,hk⟩
 obtain ⟨le1,le2,le3⟩:=Eo ht h.le;have HN:=zh hN;have H:=zh h;clear h hN ht;obtain ⟨kd,tx,nm,fr,te⟩:=t;obtain ⟨pos,opn,ng⟩:=st;simp only at le1 le2 le3
 go_enter Tryz.func103,Tryz.ntmps103
 go_upto_region 1 with fail
 go_cut [6,7] (fun s5 s6 wx=>∃b,s5= .pointer (some ⟨b,0,none⟩)∧s6= .int .i64 0∧w.heap.size<b∧wx.heap[b]? =some (By kd tx nm fr te)∧wx.heap[w.heap.size]? =some (By 0 ⟨#[]⟩ 0 0 0)∧Ac [] w wx)
 case first=>
  exact qtd
 obtain ⟨b,rfl,rfl,hb,hr,hq,hk⟩:=hcut;have x0:=Aa hr 0;have x1:=Aa hr 1;have x2:=Aa hr 2;have x3:=Aa hr 3;have x4:=Aa hr 4;simp at x0 x1 x2 x3 x4;have HR:=zh hr;have HQ:=zh hq;have HK:=zh hk;have hbl:b<wc.heap.size:=Ad hr;have hpl:∀W,Ac [] wc W→Calls Tryz.prog 126 #[.pointer (some ⟨p,0,none⟩),Ms ⟨kd,tx,nm,fr,te⟩] W fun r w'=>∃v,r= .returned v∧(v= .complex .f64 (Ag s fr).1 (Ag s fr).2∧Ac [] W w'):=fun W hk'=>(Ji ((H.1.keep hk).keep hk') ⟨kd,tx,nm,fr,te⟩ ZZ).mono fun r w' ⟨hr,hk⟩=>⟨_,hr,rfl,hk⟩
 have HPL:=zh hpl;clear hr hq hk hpl;generalize hpc:Ag s fr=pc at*
 obtain ⟨p1,p2⟩:=pc
 go_upto_region 2 with fail
 go_region_law ((refine Bd (f:=126) (vals:= #[.pointer (some ⟨p,0,none⟩),Ms ⟨kd,tx,nm,fr,te⟩]) rfl _ rfl qh (HPL.1 _ (by first|exact Ac.drew [] wc|exact Ac.refl [] wc)) ?_;rintro v w4 ⟨rfl,hk4⟩;have hkw:Ac [] wc w4:=(by first|exact (Ac.drew [] wc).trans hk4 qg|exact hk4);have hr4:=hkw.at HR.1 qg;have hq4:=hkw.at HQ.1 qg;have u0:=Aa hr4 0;have u1:=Aa hr4 1;have u2:=Aa hr4 2;have u3:=Aa hr4 3;have u4:=Aa hr4 4;have v0:=Aa hq4 0;have v1:=Aa hq4 1;have v2:=Aa hq4 2;have v3:=Aa hq4 3;have v4:=Aa hq4 4;have vf0:=Ab hq4 0;have vf1:=Ab hq4 1;have vf2:=Ab hq4 2;have vf3:=Ab hq4 3;have vf4:=Ab hq4 4;simp at u0 u1 u2 u3 u4 v0 v1 v2 v3 v4;have hl4:w.heap.size<w4.heap.size:=Ad hq4))
 all_goals
  have t:=ZF hq4 kd tx nm fr te;have hkf:=t.2.2 w (HK.1.trans hkw qg) (Nat.le_refl _);have HF:=zh hkf;clear hkf t hkw hr4 hq4 u0 u1 u2 u3 u4 hk4
  go_wp2_with fail
  exact bodyPost_ret (v:= .tuple #[.agg #[.int .i64 kd,.string tx,.float .f64 nm,.int .i64 fr,.int .i64 te],.complex .f64 p1 p2]) (by simp [results,Jo,go_sem,v0,v1,v2,v3,v4]) rfl ⟨rfl,HF.1⟩
mutual
inductive Au (w:World) (S:Nat→Prop):Af→Value→Prop
 |mk {kind:Int} {name:ByteArray} {num:Nat} {kids:List Af} {re im:Nat} {kv:Value} (h:Bc w S kids kv):
    Au w S (.mk kind name num kids re im) (.agg #[.int .i64 kind,.string name,.float .f64 num,kv,.complex .f64 re im])
inductive Bc (w:World) (S:Nat→Prop):List Af→Value→Prop
 |nil {a:Option Addr} {cap:Nat}:Bc w S [] (.slice a 0 cap)
 |some {n:Af} {ns:List Af} {g o cap:Nat} (hS:S g) (hg:g<w.heap.size) (h:Hx w S g o (n::ns)):Bc w S (n::ns) (.slice (some ⟨g,o,none⟩) (ns.length+1) cap)
inductive Hx (w:World) (S:Nat→Prop):Nat→Nat→List Af→Prop
 |nil {g o:Nat}:Hx w S g o []
 |cons {g o:Nat} {n:Af} {ns:List Af} {c0 c1 c2 c3 c4:Value} (hn:Au w S n (.agg #[c0,c1,c2,c3,c4])) (h0:w.cell? ⟨g,o,none⟩=some c0) (h1:w.cell? ⟨g,o+1,none⟩=some c1)
    (h2:w.cell? ⟨g,o+2,none⟩=some c2) (h3:w.cell? ⟨g,o+3,none⟩=some c3) (h4:w.cell? ⟨g,o+4,none⟩=some c4) (hr:Hx w S g (o+5) ns):Hx w S g o (n::ns)
end
mutual
theorem Au.keep{w w':World}{S T:Nat→Prop}{fp:List Nat}(hk:Ac fp w w')(hf:∀x∈fp,¬S x)(hT:∀x,S x→T x){n:Af}{v:Value}(h:Au w S n v):Au w' T n v:=by
 cases h with
 |mk h=>exact .mk (Bc.keep hk hf hT h)
theorem Bc.keep{w w':World}{S T:Nat→Prop}{fp:List Nat}(hk:Ac fp w w')(hf:∀x∈fp,¬S x)(hT:∀x,S x→T x){ns:List Af}{v:Value}(h:Bc w S ns v):Bc w' T ns v:=by
 cases h with
 |nil=>exact .nil
 |some hS hg h=>exact .some (hT _ hS) (Nat.lt_of_lt_of_le hg hk.size) (Hx.keep hk hf hT hS hg h)
theorem Hx.keep{w w':World}{S T:Nat→Prop}{fp:List Nat}(hk:Ac fp w w')(hf:∀x∈fp,¬S x)(hT:∀x,S x→T x){g o:Nat}(hS:S g)(hg:g<w.heap.size){ns:List Af}(h:Hx w S g o ns):Hx w' T g o ns:=by
 cases h with
 |nil=>exact .nil
 | cons hn h0 h1 h2 h3 h4 hr=>
  have hc:∀i v,w.cell? ⟨g,i,none⟩=some v→w'.cell? ⟨g,i,none⟩=some v:=fun i v h=>by
   rw [World.cell?_of_block (w:=w) (a:=⟨g,i,none⟩) (hk.block g hg fun hm=>hf g hm hS)];exact h
  exact .cons (Au.keep hk hf hT hn) (hc _ _ h0) (hc _ _ h1) (hc _ _ h2) (hc _ _ h3) (hc _ _ h4) (Hx.keep hk hf hT hS hg hr)
end
theorem Au.keep0{w w':World}{S:Nat→Prop}(hk:Ac [] w w'){n:Af}{v:Value}(h:Au w S n v):Au w' S n v:=h.keep hk qg fun _ h=>h
theorem Bc.slice{w:World}{S:Nat→Prop}{ns:List Af}{v:Value}(h:Bc w S ns v):∃a l cap,v= .slice a l cap:=by
 cases h with
 |nil=>exact ⟨_,_,_,rfl⟩
 |some hS hg h=>exact ⟨_,_,_,rfl⟩
theorem Au.shape{w:World}{S:Nat→Prop}{n:Af}{v:Value}(h:Au w S n v):∃name num a l cap re im,v= .agg #[.int .i64 n.kind,.string name,.float .f64 num,.slice a l cap,.complex .f64 re im]∧re=n.re∧im=n.im:=by
 cases h with
 |mk h=>
  obtain ⟨a,l,cap,rfl⟩:=h.slice;exact ⟨_,_,_,_,_,_,_,rfl,rfl,rfl⟩
set_option maxHeartbeats 1000000 in
theorem Js{w:World}{S:Nat→Prop}{n:Af}{v:Value}(h:Au w S n v):Calls Tryz.prog 131 #[v] w fun r w'=>r= .returned (.bool (Hn n))∧Ac [] w w':=by
 obtain ⟨name,num,a,l,cap,re,im,rfl,_,_⟩:=h.shape;have hl:Hn n=(n.kind==4||n.kind==5||n.kind==6):=rfl;rw [hl];generalize n.kind=k at*
 clear hl h
 by_cases h4:k=4
 ·subst h4;exact jne
 have n4:(k==4)=false:=beq_false_of_ne h4
 by_cases h5:k=5
 ·subst h5;exact jne
 have n5:(k==5)=false:=beq_false_of_ne h5;rw [n4,n5];clear h4 h5;exact jne
abbrev Fo(kd:Int)(tx:ByteArray)(nm:Nat)(kv:Value)(re im:Nat):Obj:= .cells #[.int .i64 kd,.string tx,.float .f64 nm,kv,.complex .f64 re im] 50
theorem OM(W:World)(b:Nat)(kd:Int)(tx:ByteArray)(nm:Nat)(kv:Value)(re im:Nat):Ac [b] W (((((W.setCell ⟨b,0,none⟩ (.int .i64 kd)).setCell ⟨b,1,none⟩ (.string tx)).setCell ⟨b,2,none⟩ (.float .f64 nm)).setCell ⟨b,3,none⟩ kv).setCell ⟨b,4,none⟩ (.complex .f64 re im)):=
 ((((Ac.setCell [b] W _ _ qg).trans (Ac.setCell [b] _ _ _ qg) qg).trans (Ac.setCell [b] _ _ _ qg) qg).trans (Ac.setCell [b] _ _ _ qg) qg).trans (Ac.setCell [b] _ _ _ qg) qg
def Aw(s:ByteArray)(p:Nat)(st st':Bq)(n:Af)(f:FuncId):Prop:=
 ∀w,PP s p st w→Calls Tryz.prog f #[.pointer (some ⟨p,0,none⟩)] w fun r w'=>∃v,r= .returned v∧Au w' (fun g=>w.heap.size≤g) n v∧PP s p st' w'∧Ac [p] w w'
theorem Mz{s:ByteArray}{p:Nat}{st:Bq}{w:World}(h:PP s p st w){sg:ByteArray}(hx:En s st sg=some ())(hsg:sg.size≤1000000):Calls Tryz.prog 132 #[.pointer (some ⟨p,0,none⟩),.string sg] w fun r w'=>r= .returned (.tuple #[.string ⟨#[]⟩,.complex .f64 0 0,.bool false])∧Ac [] w w':=by
 unfold En Xy at hx
 cases ht:Be s st.pos false with
 |none=>rw [ht] at hx;simp at hx
 | some t=>
  rw [ht] at hx;simp only [Option.bind_eq_bind,Option.bind_some] at hx
  by_cases h9:t.kind=9
  ·cases ha:Gj sg t.text
   ·exact TL h ht sg hsg h9 ha
   rw [show (t.kind==9)=true from by simp [h9],ha] at hx;simp at hx
  exact TM h ht sg hsg h9
theorem OB{s:ByteArray}{p:Nat}{st st':Bq}{n:Af}(hsub:Aw s p st st' n 290)(hno:En s st' ⟨#[94]⟩=some ()):Aw s p st st' n 288:=by
 intro w h;have hlt:=Ad h.row;have H:=zh h;have HS:=zh hsub;have HN:=zh hno;clear h hsub hno
 go_enter Tryz.func288,Tryz.ntmps288
 exact zxd
theorem VK{s:ByteArray}{p:Nat}{st st':Bq}{n:Af}(hsub:Aw s p st st' n 170)(hno:En s st' ⟨#[63]⟩=some ()):Aw s p st st' n 130:=by
 intro w h;have hlt:=Ad h.row;have H:=zh h;have HS:=zh hsub;have HN:=zh hno;clear h hsub hno
 go_enter Tryz.func130,Tryz.ntmps130
 exact zxd
theorem FP{s:ByteArray}{p:Nat}{st st':Bq}{n:Af}(hsub:Aw s p st st' n 286)(hno:En s st' ⟨#[42,32,47,32,37]⟩=some ()):Aw s p st st' n 281:=by
 intro w h;have hlt:=Ad h.row;have H:=zh h;have HS:=zh hsub;have HN:=zh hno;clear h hsub hno
 go_enter Tryz.func281,Tryz.ntmps281
 exact qod
theorem ZU{s:ByteArray}{p:Nat}{st st':Bq}{n:Af}(hsub:Aw s p st st' n 193)(hno:En s st' ⟨#[124,124]⟩=some ()):Aw s p st st' n 170:=by
 intro w h;have hlt:=Ad h.row;have H:=zh h;have HS:=zh hsub;have HN:=zh hno;clear h hsub hno
 go_enter Tryz.func170,Tryz.ntmps170
 exact qod
theorem YA{s:ByteArray}{p:Nat}{st st':Bq}{n:Af}(hsub:Aw s p st st' n 226)(hno:En s st' ⟨#[38,38]⟩=some ()):Aw s p st st' n 193:=by
 intro w h;have hlt:=Ad h.row;have H:=zh h;have HS:=zh hsub;have HN:=zh hno;clear h hsub hno
 go_enter Tryz.func193,Tryz.ntmps193
 exact qod
theorem OR{s:ByteArray}{p:Nat}{st st':Bq}{n:Af}(hsub:Aw s p st st' n 266)(hno:En s st' ⟨#[126,32,33,126]⟩=some ()):Aw s p st st' n 256:=by
 intro w h;have hlt:=Ad h.row;have H:=zh h;have HS:=zh hsub;have HN:=zh hno;clear h hsub hno
 go_enter Tryz.func256,Tryz.ntmps256
 exact qod
theorem GA{s:ByteArray}{p:Nat}{st:Bq}{w:World}(h:PP s p st w){x:ByteArray}(hx:Dv s st x=some ()):Calls Tryz.prog 64 #[.pointer (some ⟨p,0,none⟩),.string x] w fun r w'=>r= .returned (.bool false)∧Ac [] w w':=by
 unfold Dv AW at hx
 cases ht:Be s st.pos false with
 |none=>rw [ht] at hx;simp at hx
 |some t=>
  rw [ht] at hx;simp only [Option.bind_eq_bind,Option.bind_some] at hx;have hi:=Ky h ht x
  cases hb:Ya t x
  ·rw [hb] at hi;exact hi
  rw [hb] at hx;simp at hx
theorem MW{s:ByteArray}{p:Nat}{st st':Bq}{n:Af}(h0:En s st ⟨#[33,32,45,32,43]⟩=some ())(hsub:Aw s p st st' n 288):Aw s p st st' n 286:=by
 intro w h;have hlt:=Ad h.row;have h14:=h.p;have HP0:=zh (h.keep (Ac.alloc [] w (Fo 0 ⟨#[]⟩ 0 (.slice none 0 0) 0 0)));have HQ0:=zh (Ca w (Fo 0 ⟨#[]⟩ 0 (.slice none 0 0) 0 0));have HK0:=zh (Ac.alloc [] w (Fo 0 ⟨#[]⟩ 0 (.slice none 0 0) 0 0));have HS:=zh hsub;have HH0:=zh h0;clear h hsub h0
 go_enter Tryz.func286,Tryz.ntmps286
 go_wp2_with fail
 generalize w.alloc (Fo 0 ⟨#[]⟩ 0 (.slice none 0 0) 0 0)=w0 at*
 refine (Mz HP0.1 HH0.1 zi).mono ?_;rintro r w1 ⟨rfl,hk1⟩;have HP1:=zh (HP0.1.keep hk1);have HQ1:=zh (hk1.at HQ0.1 qg);have HK1:=zh (HK0.1.trans hk1 qg);clear hk1
 go_wp2_with fail
 refine (HS.1 _ HP1.1).mono ?_;rintro r w9 ⟨v,rfl,hn',hp9,hk9⟩;have hsz:w.heap.size<w1.heap.size:=Ad HQ1.1;have hn:Au w9 (fun g=>w.heap.size<g) n v:=hn'.keep (Ac.refl [] w9) qg (fun x hx=>Nat.lt_of_lt_of_le hsz hx);have hq3:=hk9.at HQ1.1 qi;obtain ⟨tx,nm,a,l,cap,re,im,rfl,-,-⟩:=hn.shape;generalize hkd:n.kind=kd at*
 have HN3:=zh hn;have HP3:=zh hp9;have HK3:=zh ((HK1.1.weaken (fp':= [p]) qg).trans hk9 qg);have hl3:w.heap.size<w9.heap.size:=Ad hq3;have q0:=Aa hq3 0;have q1:=Aa hq3 1;have q2:=Aa hq3 2;have q3:=Aa hq3 3;have q4:=Aa hq3 4;have qf0:=Ab hq3 0;have qf1:=Ab hq3 1;have qf2:=Ab hq3 2;have qf3:=Ab hq3 3;have qf4:=Ab hq3 4;simp at q0 q1 q2 q3 q4;clear hn hn' hp9 hk9 hq3
 go_wp2_with fail
 have t5:=OM w9 w.heap.size kd tx nm (.slice a l cap) re im;refine bodyPost_ret (v:= .agg #[.int .i64 kd,.string tx,.float .f64 nm,.slice a l cap,.complex .f64 re im]) zl rfl ⟨_,rfl, ?_, ?_, ?_⟩
 ·exact jlb
 ·exact qlb
 exact zmb
theorem FQ{s:ByteArray}{p:Nat}{st st':Bq}{n:Af}(h0:En s st ⟨#[43,43,32,45,45]⟩=some ())(h1:Dv s st ⟨#[40]⟩=some ())(hsub:Aw s p st st' n 294):Aw s p st st' n 292:=by
 intro w h;have hlt:=Ad h.row;have h14:=h.p;have HP0:=zh (h.keep (Ac.alloc [] w (Fo 0 ⟨#[]⟩ 0 (.slice none 0 0) 0 0)));have HQ0:=zh (Ca w (Fo 0 ⟨#[]⟩ 0 (.slice none 0 0) 0 0));have HK0:=zh (Ac.alloc [] w (Fo 0 ⟨#[]⟩ 0 (.slice none 0 0) 0 0));have HS:=zh hsub;have HH0:=zh h0;have HH1:=zh h1;clear h hsub h0 h1
 go_enter Tryz.func292,Tryz.ntmps292
 go_wp2_with fail
 generalize w.alloc (Fo 0 ⟨#[]⟩ 0 (.slice none 0 0) 0 0)=w0 at*
 refine WA ?_;rintro r w' ⟨rfl,hw'⟩;rw [hw'];clear hw'
 go_wp2_with fail
 exact zud
theorem LX{s:ByteArray}{p:Nat}{st st':Bq}{n:Af}(h0:En s st ⟨#[43,43,32,45,45]⟩=some ())(h1:Dv s st ⟨#[40]⟩=some ())(hsub:Aw s p st st' n 294):Aw s p st st' n 296:=by
 intro w h;have hlt:=Ad h.row;have h14:=h.p;have HP0:=zh (h.keep (Ac.alloc [] w (Fo 0 ⟨#[]⟩ 0 (.slice none 0 0) 0 0)));have HQ0:=zh (Ca w (Fo 0 ⟨#[]⟩ 0 (.slice none 0 0) 0 0));have HK0:=zh (Ac.alloc [] w (Fo 0 ⟨#[]⟩ 0 (.slice none 0 0) 0 0));have HS:=zh hsub;have HH0:=zh h0;have HH1:=zh h1;clear h hsub h0 h1
 go_enter Tryz.func296,Tryz.ntmps296
 go_wp2_with fail
 generalize w.alloc (Fo 0 ⟨#[]⟩ 0 (.slice none 0 0) 0 0)=w0 at*
 exact zud
theorem Aac{s:ByteArray}{p:Nat}{st st':Bq}{n:Af}(hsub:Aw s p st st' n 256)(hno:Dv s st' ⟨#[105,110]⟩=some ()):Aw s p st st' n 226:=by
 intro w h;have hlt:=Ad h.row;have H:=zh h;have HS:=zh hsub;have HN:=zh hno;clear h hsub hno
 go_enter Tryz.func226,Tryz.ntmps226
 go_wp2_with fail
 refine YS ?_;rintro r w1 ⟨v,rfl,hn',hp1,hk1⟩;have hn:Au w1 (fun g=>w.heap.size<g) n v:=hn'.keep (Ac.refl [] w1) qg (fun x hx=>by have h2:=hx;simp at h2;omega);clear hn';have hq1:=hk1.at (Ca w (Fo 0 ⟨#[]⟩ 0 (.slice none 0 0) 0 0)) qi;have hkw:Ac [p] w w1:=(Ac.alloc [p] w _).trans hk1 (fun _ h=> .inl h);have hsz:w.heap.size<w1.heap.size:=by have:=hk1.size;simp at this;omega
 have h14:=hp1.p;obtain ⟨tx,nm,a,l,cap,re,im,rfl,-,-⟩:=hn.shape;generalize hkd:n.kind=kd at*
 have hka:=Ac.alloc [] w1 (Fo kd tx nm (.slice a l cap) re im);have HN1:=zh (hn.keep0 hka);have HP1:=zh (hp1.keep hka);have HK1:=zh (hkw.trans hka qg);have HQ1:=zh (hka.at hq1 qg);have HB1:=zh (Ca w1 (Fo kd tx nm (.slice a l cap) re im));clear hn hp1 hkw hk1 hq1 hka
 go_wp2_with fail
 refine wp_loop_rounds 1 ?_;rw [rounds_succ]
 go_wp2_with fail
 generalize w1.alloc (Fo kd tx nm (.slice a l cap) re im)=w2 at*
 refine (GA HP1.1 HN.1).mono ?_;exact jmd
theorem Ta{s:ByteArray}{p:Nat}{st st':Bq}{n:Af}(hsub:Aw s p st st' n 270)(hno:En s st' ⟨#[60,32,60,61,32,61,61,32,33,61,32,62,61,32,62]⟩=some ())(hng:st'.ng=false):Aw s p st st' n 266:=by
 intro w h;have hlt:=Ad h.row;have H:=zh h;have HS:=zh hsub;have HN:=zh hno;clear h hsub hno
 go_enter Tryz.func266,Tryz.ntmps266
 go_wp2_with fail
 refine YS ?_;rintro r w1 ⟨v,rfl,hn',hp1,hk1⟩;have hn:Au w1 (fun g=>w.heap.size<g) n v:=hn'.keep (Ac.refl [] w1) qg (fun x hx=>by have h2:=hx;simp at h2;omega);clear hn';have hq1:=hk1.at (Ca w (Fo 0 ⟨#[]⟩ 0 (.slice none 0 0) 0 0)) qi;have hkw:Ac [p] w w1:=(Ac.alloc [p] w _).trans hk1 (fun _ h=> .inl h);have hsz:w.heap.size<w1.heap.size:=by have:=hk1.size;simp at this;omega
 have h14:=hp1.p;obtain ⟨tx,nm,a,l,cap,re,im,rfl,-,-⟩:=hn.shape;generalize hkd:n.kind=kd at*
 have hka:=Ac.alloc [] w1 (Fo kd tx nm (.slice a l cap) re im);have HN1:=zh (hn.keep0 hka);have HP1:=zh (hp1.keep hka);have HK1:=zh (hkw.trans hka qg);have HQ1:=zh (hka.at hq1 qg);have HB1:=zh (Ca w1 (Fo kd tx nm (.slice a l cap) re im));clear hn hp1 hkw hk1 hq1 hka;have hlp:p<w1.heap.size:=by omega
 generalize hw2:w1.alloc (Fo kd tx nm (.slice a l cap) re im)=w2 at*
 have c3:=Aa HP1.1.row 3;simp [hng] at c3
 go_wp2_with fail
 refine zlb ?_;exact jmd
theorem TH{s:ByteArray}{p:Nat}{st st':Bq}{n:Af}(hsub:Aw s p st st' n 292)(hl:Hn n=false):Aw s p st st' n 290:=by
 intro w h;have hlt:=Ad h.row;have H:=zh h;have HS:=zh hsub;have HL:=zh hl;clear h hsub hl
 go_enter Tryz.func290,Tryz.ntmps290
 exact qpd
theorem KY{s:ByteArray}{p:Nat}{st st':Bq}{n:Af}(hsub:Aw s p st st' n 292)(hl:Hn n=true)(ho:En s st' ⟨#[43,43,32,45,45]⟩=some ()):Aw s p st st' n 290:=by
 intro w h;have hlt:=Ad h.row;have H:=zh h;have HS:=zh hsub;have HL:=zh hl;have HO:=zh ho;clear h hsub hl ho
 go_enter Tryz.func290,Tryz.ntmps290
 exact zpd
theorem VC{s:ByteArray}{p:Nat}{st st':Bq}{n:Af}(hsub:Aw s p st st' n 130)(hl:Hn n=false):Aw s p st st' n 109:=by
 intro w h;have hlt:=Ad h.row;have H:=zh h;have HS:=zh hsub;have HL:=zh hl;clear h hsub hl
 go_enter Tryz.func109,Tryz.ntmps109
 exact qpd
theorem LT{s:ByteArray}{p:Nat}{st st':Bq}{n:Af}(hsub:Aw s p st st' n 130)(hl:Hn n=true)(ho:En s st' ⟨#[61,32,43,61,32,45,61,32,42,61,32,47,61,32,37,61,32,94,61]⟩=some ()):Aw s p st st' n 109:=by
 intro w h;have hlt:=Ad h.row;have H:=zh h;have HS:=zh hsub;have HL:=zh hl;have HO:=zh ho;clear h hsub hl ho
 go_enter Tryz.func109,Tryz.ntmps109
 exact zpd
end Go.Proofs.YtkfillfkbhbbjaaGreatDoor
