/- Texts of this claim, joined: JoinP, Data, PrgA. -/
import Derived.Test.YteafcepaolofpaaGreatDoorThings
import Derived.Test.YteafcepaolofpaaGreatDoorLvP
set_option maxRecDepth 100000
set_option maxHeartbeats 4000000
set_option linter.unusedSimpArgs false
set_option linter.unusedVariables false
set_option linter.unusedSectionVars false
section
/- The parser's functions put together: what the plain parser says comes, comes. -/
namespace Go.Proofs.YteafcepaolofpaaGreatDoor
open Go.RowKit

/-- What each of the parser's functions does. -/
def HandsW(s:ByteArray)(p:Nat):Wh→PSt→PSt→Node→Prop
  | .expr,st,st',n=>Hands s p st st' n 130
  | .cond,st,st',n=>Hands s p st st' n 156
  | .or,st,st',n=>Hands s p st st' n 188
  | .and,st,st',n=>Hands s p st st' n 206
  | .in,st,st',n=>Hands s p st st' n 224
  | .match,st,st',n=>Hands s p st st' n 241
  | .compare,st,st',n=>Hands s p st st' n 250
  | .concat,st,st',n=>Hands s p st st' n 256
  | .sum,st,st',n=>Hands s p st st' n 259
  | .product,st,st',n=>Hands s p st st' n 261
  | .unary,st,st',n=>Hands s p st st' n 262
  | .power,st,st',n=>Hands s p st st' n 263
  | .post,st,st',n=>Hands s p st st' n 264
  | .primary,st,st',n=>Hands s p st st' n 265
  | .operand,st,st',n=>Hands s p st st' n 267
  | .dollar,st,st',n=>Hands s p st st' n 270
  | .call t re im,st,st',n=>t.to≤s.size→t.kind=6∨t.kind=7→CallH s p t re im st st' n
  | .simple,st,st',n=>Hands s p st st' n 183
  | .stmt,st,st',n=>Hands s p st st' n 153
  | .block,st,st',n=>Hands s p st st' n 128

theorem hereF_some{s:ByteArray}{st:PSt}{op:Bool}{t:Tok}{re im:Nat}(h:hereF s st op=some (t,re,im)):nextF s st.pos op=some t∧re=(placeOf s t.fr).1∧im=(placeOf s t.fr).2:=by
  unfold hereF at h
  cases ht:nextF s st.pos op with
  |none=>rw [ht] at h;simp at h
  | some t2=>
    rw [ht] at h
    simp only [Option.bind_eq_bind,Option.bind_some,Option.some.injEq,Prod.mk.injEq] at h
    obtain ⟨rfl,h2⟩:=h
    exact ⟨rfl,by rw [h2],by rw [h2]⟩

theorem same_false{a:ByteArray}{l:List UInt8}(h:same a (bs l)=false):(a.toList==l)=false:=by
  rw [←same_eq,show (bs l).toList=l from by rw [bs,ByteArray.toList_mk]] at h;exact h
theorem same_true{a:ByteArray}{l:List UInt8}(h:same a (bs l)=true):(a.toList==l)=true:=by
  rw [←same_eq,show (bs l).toList=l from by rw [bs,ByteArray.toList_mk]] at h;exact h

theorem take_false{s:ByteArray}{st st':PSt}{x:ByteArray}(h:takeF s st x=some (false,st')):st'=st∧notF s st x=some ():=by
  unfold takeF at h
  unfold notF isF
  cases ht:nextF s st.pos false with
  |none=>rw [ht] at h;simp at h
  | some t=>
    rw [ht] at h
    simp only [Option.bind_eq_bind,Option.bind_some] at h⊢
    cases hb:isT t x
    · rw [hb] at h
      simp only [Bool.false_eq_true,if_false,Option.some.injEq,Prod.mk.injEq,true_and] at h
      exact ⟨h.symm,by simp⟩
    · rw [hb] at h
      simp only [if_true] at h
      cases ho:opnF x st.opn with
      |none=>rw [ho] at h;simp at h
      |some o=>rw [ho] at h;simp at h

section
variable {s:ByteArray} {p:Nat} {rec:Rec} (hrec:∀wh st st' n,rec wh st=some (n,st')→HandsW s p wh st st' n)
include hrec

theorem st_expr{st st':PSt}{n:Node}(hx:step s rec .expr st=some (n,st')):HandsW s p .expr st st' n:=by
  simp only [step,Option.bind_eq_bind,Option.bind_eq_some_iff,Prod.exists] at hx
  obtain ⟨n1,st1,h1,hx⟩:=hx
  have hs:Hands s p st st1 n1 156:=hrec _ _ _ _ h1
  cases hl:lval n1 with
  | false=>
    rw [hl] at hx
    simp only [Bool.false_eq_true,if_false,Option.some.injEq,Prod.mk.injEq] at hx
    obtain ⟨rfl,rfl⟩:=hx
    exact expr_no hs hl
  | true=>
    rw [hl] at hx
    simp only [if_true,Option.bind_eq_some_iff,Prod.exists] at hx
    obtain ⟨x,st2,h2,hx⟩:=hx
    cases x with
    | none=>
      obtain ⟨rfl,hno⟩:=oneF_none h2
      simp only [Option.some.injEq,Prod.mk.injEq] at hx
      obtain ⟨rfl,rfl⟩:=hx
      exact expr_none hs hl hno
    | some y=>
      obtain ⟨x,re,im⟩:=y
      obtain ⟨t,ht,h9,ha,rfl,rfl,rfl,rfl⟩:=oneF_some h2
      simp only [Option.bind_eq_some_iff,Prod.exists,Option.some.injEq,Prod.mk.injEq] at hx
      obtain ⟨m,st3,h3,rfl,rfl⟩:=hx
      exact expr_yes hs hl ht h9 ha (hrec _ _ _ _ h3)
theorem st_post{st st':PSt}{n:Node}(hx:step s rec .post st=some (n,st')):HandsW s p .post st st' n:=by
  simp only [step,Option.bind_eq_bind,Option.bind_eq_some_iff,Prod.exists] at hx
  obtain ⟨n1,st1,h1,hx⟩:=hx
  have hs:Hands s p st st1 n1 265:=hrec _ _ _ _ h1
  cases hl:lval n1 with
  | false=>
    rw [hl] at hx
    simp only [Bool.false_eq_true,if_false,Option.some.injEq,Prod.mk.injEq] at hx
    obtain ⟨rfl,rfl⟩:=hx
    exact post_no hs hl
  | true=>
    rw [hl] at hx
    simp only [if_true,Option.bind_eq_some_iff,Prod.exists] at hx
    obtain ⟨x,st2,h2,hx⟩:=hx
    cases x with
    | none=>
      obtain ⟨rfl,hno⟩:=oneF_none h2
      simp only [Option.some.injEq,Prod.mk.injEq] at hx
      obtain ⟨rfl,rfl⟩:=hx
      exact post_none hs hl hno
    | some y=>
      obtain ⟨x,re,im⟩:=y
      obtain ⟨t,ht,h9,ha,rfl,rfl,rfl,rfl⟩:=oneF_some h2
      simp only [Option.some.injEq,Prod.mk.injEq] at hx
      obtain ⟨rfl,rfl⟩:=hx
      exact post_yes hs hl ht h9 ha
theorem st_cond{st st':PSt}{n:Node}(hx:step s rec .cond st=some (n,st')):HandsW s p .cond st st' n:=by
  simp only [step,Option.bind_eq_bind,Option.bind_eq_some_iff,Prod.exists,Option.some.injEq,Prod.mk.injEq] at hx
  obtain ⟨n1,st1,h1,_,h2,rfl,rfl⟩:=hx
  exact cond_lv (hrec _ _ _ _ h1) h2
theorem st_or{st st':PSt}{n:Node}(hx:step s rec .or st=some (n,st')):HandsW s p .or st st' n:=by
  simp only [step,Option.bind_eq_bind,Option.bind_eq_some_iff,Prod.exists,Option.some.injEq,Prod.mk.injEq] at hx
  obtain ⟨n1,st1,h1,_,h2,rfl,rfl⟩:=hx
  exact or_lv (hrec _ _ _ _ h1) h2
theorem st_and{st st':PSt}{n:Node}(hx:step s rec .and st=some (n,st')):HandsW s p .and st st' n:=by
  simp only [step,Option.bind_eq_bind,Option.bind_eq_some_iff,Prod.exists,Option.some.injEq,Prod.mk.injEq] at hx
  obtain ⟨n1,st1,h1,_,h2,rfl,rfl⟩:=hx
  exact and_lv (hrec _ _ _ _ h1) h2
theorem st_in{st st':PSt}{n:Node}(hx:step s rec .in st=some (n,st')):HandsW s p .in st st' n:=by
  simp only [step,Option.bind_eq_bind,Option.bind_eq_some_iff,Prod.exists,Option.some.injEq,Prod.mk.injEq] at hx
  obtain ⟨n1,st1,h1,_,h2,rfl,rfl⟩:=hx
  exact in_lv (hrec _ _ _ _ h1) h2
theorem st_match{st st':PSt}{n:Node}(hx:step s rec .match st=some (n,st')):HandsW s p .match st st' n:=by
  simp only [step,Option.bind_eq_bind,Option.bind_eq_some_iff,Prod.exists,Option.some.injEq,Prod.mk.injEq] at hx
  obtain ⟨n1,st1,h1,_,h2,rfl,rfl⟩:=hx
  exact match_lv (hrec _ _ _ _ h1) h2
theorem st_compare{st st':PSt}{n:Node}(hx:step s rec .compare st=some (n,st')):HandsW s p .compare st st' n:=by
  simp only [step,Option.bind_eq_bind,Option.bind_eq_some_iff,Prod.exists,Option.some.injEq,Prod.mk.injEq] at hx
  obtain ⟨n1,st1,h1,_,h2,rfl,rfl⟩:=hx
  cases hg:st1.ng with
  |true=>rw [hg] at h2;exact compare_true_lv (hrec _ _ _ _ h1) h2 hg
  |false=>rw [hg] at h2;exact compare_false_lv (hrec _ _ _ _ h1) h2 hg
theorem st_product{st st':PSt}{n:Node}(hx:step s rec .product st=some (n,st')):HandsW s p .product st st' n:=by
  simp only [step,Option.bind_eq_bind,Option.bind_eq_some_iff,Prod.exists,Option.some.injEq,Prod.mk.injEq] at hx
  obtain ⟨n1,st1,h1,_,h2,rfl,rfl⟩:=hx
  exact product_lv (hrec _ _ _ _ h1) h2
theorem st_unary{st st':PSt}{n:Node}(hx:step s rec .unary st=some (n,st')):HandsW s p .unary st st' n:=by
  simp only [step,Option.bind_eq_bind,Option.bind_eq_some_iff] at hx
  obtain ⟨_,h1,hx⟩:=hx
  exact unary_lv h1 (hrec _ _ _ _ hx)
theorem st_power{st st':PSt}{n:Node}(hx:step s rec .power st=some (n,st')):HandsW s p .power st st' n:=by
  simp only [step,Option.bind_eq_bind,Option.bind_eq_some_iff,Prod.exists,Option.some.injEq,Prod.mk.injEq] at hx
  obtain ⟨n1,st1,h1,_,h2,rfl,rfl⟩:=hx
  exact power_lv (hrec _ _ _ _ h1) h2
theorem st_primary{st st':PSt}{n:Node}(hx:step s rec .primary st=some (n,st')):HandsW s p .primary st st' n:=by
  simp only [step,Option.bind_eq_bind,Option.bind_eq_some_iff] at hx
  obtain ⟨_,h1,_,h2,hx⟩:=hx
  exact primary_lv h1 h2 (hrec _ _ _ _ hx)
theorem st_dollar{st st':PSt}{n:Node}(hx:step s rec .dollar st=some (n,st')):HandsW s p .dollar st st' n:=by
  simp only [step,Option.bind_eq_bind,Option.bind_eq_some_iff] at hx
  obtain ⟨_,h1,_,h2,hx⟩:=hx
  exact dollar_lv h1 h2 (hrec _ _ _ _ hx)
theorem st_operand{st st':PSt}{n:Node}(hx:step s rec .operand st=some (n,st')):HandsW s p .operand st st' n:=by
  intro w h
  simp only [step,Option.bind_eq_bind,Option.bind_eq_some_iff] at hx
  obtain ⟨t,ht,hx⟩:=hx
  have hle:=(nextF_le ht h.le).2.1
  obtain ⟨kd,tx,nm,fr,te⟩:=t
  simp only at hx hle
  by_cases h2:kd=2
  · subst h2
    simp only [if_true,Option.some.injEq,Prod.mk.injEq] at hx
    obtain ⟨rfl,rfl⟩:=hx
    exact operand_num ht w h
  rw [if_neg h2] at hx
  by_cases h3:kd=3
  · subst h3
    simp only [if_true] at hx
    split at hx
    · rename_i h256
      simp only [Option.some.injEq,Prod.mk.injEq] at hx
      obtain ⟨rfl,rfl⟩:=hx
      exact operand_text ht (by omega) w h
    · cases hx
  rw [if_neg h3] at hx
  by_cases h4:kd=4
  · subst h4
    simp only [if_true] at hx
    split at hx
    · rename_i h97
      simp only [Option.some.injEq,Prod.mk.injEq] at hx
      obtain ⟨rfl,rfl⟩:=hx
      exact operand_regex ht h97 w h
    · cases hx
  rw [if_neg h4] at hx
  by_cases h5:kd=5
  · subst h5
    simp only [if_true,Option.bind_eq_some_iff,Prod.exists] at hx
    obtain ⟨b,st2,hb,hx⟩:=hx
    cases b with
    | true=>
      simp at hx
    | false=>
      simp only [Bool.false_eq_true,if_false,Option.some.injEq,Prod.mk.injEq] at hx
      obtain ⟨rfl,rfl⟩:=hx
      exact operand_var ht hb w h
  rw [if_neg h5] at hx
  by_cases h67:kd=6∨kd=7
  · rw [if_pos h67] at hx
    cases hx
  rw [if_neg h67] at hx
  by_cases h9:kd=9∧same tx (bs [36])=true
  · rw [if_pos h9] at hx
    obtain ⟨rfl,hs⟩:=h9
    simp only [Option.bind_eq_some_iff,Prod.exists,Option.some.injEq,Prod.mk.injEq] at hx
    obtain ⟨m,st2,hm,rfl,rfl⟩:=hx
    exact operand_dollar ht (same_true hs) (hrec _ _ _ _ hm) w h
  · rw [if_neg h9] at hx;cases hx
theorem st_call{st st':PSt}{n:Node}{t:Tok}{re im:Nat}(hx:step s rec (.call t re im) st=some (n,st')):HandsW s p (.call t re im) st st' n:=by
  intro _ _
  simp only [step] at hx
  cases hx
theorem st_simple{st st':PSt}{n:Node}(hx:step s rec .simple st=some (n,st')):HandsW s p .simple st st' n:=by
  simp only [step,Option.bind_eq_bind,Option.bind_eq_some_iff,Prod.exists] at hx
  obtain ⟨t,re,im,h0,_,h1,_,h2,b,st2,h3,hx⟩:=hx
  obtain ⟨ht,rfl,rfl⟩:=hereF_some h0
  obtain ⟨kd,tx,nm,fr,te⟩:=t
  cases b with
  | true=>
    simp only [if_true,Option.some.injEq,Prod.mk.injEq] at hx
    obtain ⟨rfl,rfl⟩:=hx
    exact simple_next ht h1 h2 h3
  | false=>
    simp only [Bool.false_eq_true,if_false,Option.bind_eq_some_iff,Prod.exists] at hx
    obtain ⟨_,h4,_,h5,_,h6,b,st3,h7,hx⟩:=hx
    have hs2:st2=st∧notF s st (bs [110,101,120,116])=some ():=take_false h3
    obtain ⟨rfl,h3'⟩:=hs2
    cases b with
    | true=>
      simp only [if_true,Option.bind_eq_some_iff,Prod.exists] at hx
      obtain ⟨c,h8,hx⟩:=hx
      cases c with
      | false=>
        simp only [Bool.false_eq_true,if_false,Option.bind_eq_some_iff,Option.some.injEq,Prod.mk.injEq] at hx
        obtain ⟨_,h10,rfl,rfl⟩:=hx
        exact simple_print0 ht h1 h2 h3' h4 h5 h6 h7 h8 h10
      | true=>
        simp at hx
    | false=>
      obtain ⟨rfl,h7'⟩:=take_false h7
      simp only [Bool.false_eq_true,if_false,Option.bind_eq_some_iff,Prod.exists,Option.some.injEq,Prod.mk.injEq] at hx
      obtain ⟨_,h8,m,st4,h9,rfl,rfl⟩:=hx
      exact simple_expr ht h1 h2 h3' h4 h5 h6 h7' h8 (hrec _ _ _ _ h9)
theorem st_stmt{st st':PSt}{n:Node}(hx:step s rec .stmt st=some (n,st')):HandsW s p .stmt st st' n:=by
  simp only [step,Option.bind_eq_bind,Option.bind_eq_some_iff,Prod.exists,Option.some.injEq,Prod.mk.injEq] at hx
  obtain ⟨t,re,im,h0,_,h1,_,h2,_,h3,_,h4,_,h5,m,st2,h6,st3,h7,rfl,rfl⟩:=hx
  obtain ⟨ht,rfl,rfl⟩:=hereF_some h0
  obtain ⟨kd,tx,nm,fr,te⟩:=t
  exact stmt_lv ht h1 h2 h3 h4 h5 (hrec _ _ _ _ h6) h7
theorem st_block{st st':PSt}{n:Node}(hx:step s rec .block st=some (n,st')):HandsW s p .block st st' n:=by
  simp only [step,Option.bind_eq_bind,Option.bind_eq_some_iff,Prod.exists,Option.some.injEq,Prod.mk.injEq] at hx
  obtain ⟨t,re,im,h0,st1,h1,st2,h2,l,st3,h3,st4,h4,rfl,rfl⟩:=hx
  obtain ⟨ht,rfl,rfl⟩:=hereF_some h0
  obtain ⟨kd,tx,nm,fr,te⟩:=t
  exact block_lv (fun a b c hh=>hrec _ _ _ _ hh) ht h1 h2 h3 h4
theorem st_any{wh:Wh}{st st':PSt}{n:Node}(hx:step s rec wh st=some (n,st')):HandsW s p wh st st' n:=by
  cases wh with
  |expr=>exact st_expr hrec hx
  |cond=>exact st_cond hrec hx
  |or=>exact st_or hrec hx
  |and=>exact st_and hrec hx
  |«in»=>exact st_in hrec hx
  |«match»=>exact st_match hrec hx
  |compare=>exact st_compare hrec hx
  |concat=>exact concat_lv (fun a b c hh=>hrec _ _ _ _ hh) hx
  |sum=>exact sum_lv (fun a b c hh=>hrec _ _ _ _ hh) hx
  |product=>exact st_product hrec hx
  |unary=>exact st_unary hrec hx
  |power=>exact st_power hrec hx
  |post=>exact st_post hrec hx
  |primary=>exact st_primary hrec hx
  |operand=>exact st_operand hrec hx
  |dollar=>exact st_dollar hrec hx
  |call t re im=>exact st_call hrec hx
  |simple=>exact st_simple hrec hx
  |stmt=>exact st_stmt hrec hx
  |block=>exact st_block hrec hx
end
theorem parN_hands{s:ByteArray}{p:Nat}:∀(k:Nat) (wh:Wh) (st st':PSt) (n:Node),parN s k wh st=some (n,st')→HandsW s p wh st st' n
  |0,_,_,_,_,h=>by simp [parN] at h
  |k+1,_,_,_,_,h=>st_any (parN_hands k) h
end Go.Proofs.YteafcepaolofpaaGreatDoor
end
section
/- Slices read: of strings, of functions, of rules; a program. -/
namespace Go.Proofs.YteafcepaolofpaaGreatDoor
open Go.RowKit

/-- The value v is a slice of these; it and what its elements lie in are blocks of S. -/
def SliceR{α:Type}(E:World→(Nat→Prop)→α→List Value→Prop)(w:World)(S:Nat→Prop)(l:List α)(v:Value):Prop:=
  ∃a cap,v= .slice a l.length cap∧l.length≤cap∧(0<l.length→∃g o xs,a=some ⟨g,o,none⟩∧S g∧g<w.heap.size∧Elems (E w S) l xs∧∀j u,xs[j]? =some u→w.cell? ⟨g,o+j,none⟩=some u)
section
variable {α:Type} {E:World→(Nat→Prop)→α→List Value→Prop} {size:Nat}
theorem SliceR.kp(hE:ElemL E size){w w':World}{S:Nat→Prop}{fp:List Nat}{l:List α}{v:Value}(h:SliceR E w S l v)(hk:Keeps fp w w')(hf:∀x∈fp,¬S x):SliceR E w' S l v:=by
  obtain ⟨a,cap,rfl,hcap,h⟩:=h
  refine ⟨a,cap,rfl,hcap,fun h0=> ?_⟩
  obtain ⟨g,o,xs,rfl,hS,hg,hx,hc⟩:=h h0
  exact ⟨g,o,xs,rfl,hS,Nat.lt_of_lt_of_le hg hk.size,hx.mono fun a c h=>hE.keep h hk hf fun _ h=>h,fun j u hj=>by
    rw [World.cell?_of_block (w:=w) (a:=⟨g,o+j,none⟩) (hk.block g hg fun hm=>hf g hm hS)];exact hc j u hj⟩
theorem SliceR.to(hE:ElemL E size){w:World}{S T:Nat→Prop}{l:List α}{v:Value}(h:SliceR E w S l v)(hT:∀x,S x→T x):SliceR E w T l v:=by
  obtain ⟨a,cap,rfl,hcap,h⟩:=h
  refine ⟨a,cap,rfl,hcap,fun h0=> ?_⟩
  obtain ⟨g,o,xs,rfl,hS,hg,hx,hc⟩:=h h0
  exact ⟨g,o,xs,rfl,hT _ hS,hg,hx.mono fun a c h=>hE.keep h (Keeps.refl [] w) (by simp) hT,hc⟩
theorem SliceR.nil{w:World}{S:Nat→Prop}{a:Option Addr}{cap:Nat}:SliceR E w S [] (.slice a 0 cap):=⟨a,cap,rfl,Nat.zero_le _,fun h=>absurd h (by simp)⟩
theorem sliceR_of_own(hE:ElemL E size){e:TypeId}{w:World}{b:Nat}{T:Nat→Prop}{l:List α}{v:Value}(h:OwnL E e size w b T l v):SliceR E w T l v:=by
  obtain ⟨xs,ho,ht,hx⟩:=h
  rcases ho.2 with ⟨rfl,hn⟩|⟨g,cap,cur,rfl,hb,hg,h1,h2,h3,h4⟩
  · exact ⟨none,0,by rw [hn],by omega,fun h=>by omega⟩
  · refine ⟨_,cap,rfl,h1,fun h0=>⟨g,0,xs,rfl,ht g rfl,h_lt hg,hx.mono fun a c h=>hE.keep h (Keeps.refl [] w) (by simp) fun _ h=>h.1,fun j u hj=> ?_⟩⟩
    rw [Nat.zero_add,cell_of_heap hg]
    have hj2:(cur.toList.take (l.length*size))[j]? =some u:=by rw [h4];exact hj
    rw [List.getElem?_take] at hj2
    split at hj2
    · simpa using hj2
    · cases hj2
theorem Elems.get{F:α→List Value→Prop}{k:Nat}(hlen:∀a c,F a c→c.length=k){l:List α}{xs:List Value}(h:Elems F l xs):∀i (hi:i<l.length),∃c,F l[i] c∧∀j u,c[j]? =some u→xs[i*k+j]? =some u:=by
  induction h with
  |nil=>intro i hi;simp at hi
  | cons h1 t ih=>
    rename_i a c l xs
    intro i hi
    cases i with
    | zero=>
      refine ⟨c,h1,fun j u hj=> ?_⟩
      have hjl:j<c.length:=(List.getElem?_eq_some_iff.1 hj).1
      rw [Nat.zero_mul,Nat.zero_add,List.getElem?_append_left hjl];exact hj
    | succ i=>
      obtain ⟨d,h2,h3⟩:=ih i (by simpa using hi)
      refine ⟨d,by simpa using h2,fun j u hj=> ?_⟩
      have h4:=h3 j u hj
      have h5:=hlen _ _ h1
      rw [List.getElem?_append_right (by rw [h5,Nat.add_mul];omega),h5,show (i+1)*k+j -k=i*k+j from by rw [Nat.add_mul];omega]
      exact h4
/-- An element of a slice. -/
theorem SliceR.cap{w:World}{S:Nat→Prop}{l:List α}{a:Option Addr}{n cap:Nat}(h:SliceR E w S l (.slice a n cap)):l.length≤cap:=by
  obtain ⟨a',cap',hv,hc,-⟩:=h
  injection hv with _ _ h3
  rw [h3];exact hc
theorem SliceR.get(hE:ElemL E size){w:World}{S:Nat→Prop}{l:List α}{v:Value}(h:SliceR E w S l v){i:Nat}(hi:i<l.length):
    ∃g o cap c,v= .slice (some ⟨g,o,none⟩) l.length cap∧S g∧g<w.heap.size∧E w S l[i] c∧∀j u,c[j]? =some u→w.cell? ⟨g,o+(i*size+j),none⟩=some u:=by
  obtain ⟨a,cap,rfl,-,h⟩:=h
  obtain ⟨g,o,xs,rfl,hS,hg,hx,hc⟩:=h (by omega)
  obtain ⟨c,h1,h2⟩:=hx.get (fun a c h=>hE.len h) i hi
  exact ⟨g,o,cap,c,rfl,hS,hg,h1,fun j u hj=>hc _ _ (h2 j u hj)⟩
end

/-! ### strings -/
def StrE(_:World)(_:Nat→Prop)(u:ByteArray)(c:List Value):Prop:=c= [.string u]
theorem strL:ElemL StrE 1:={
  keep:=fun h _ _ _=>h
  len:=fun h=>by rw [h];rfl
  one:=fun h u hu=>by rw [h] at hu;simp at hu;rw [hu];rfl
  }
theorem info9:∃i,Tryz.prog.info? 9=some i∧i.zero=some (.string ⟨#[]⟩)∧i.size=1∧i.bytes=16:=by
  have h:(Tryz.prog.info? 9).map (fun i=>(i.zero,i.size,i.bytes))=some (some (.string ⟨#[]⟩),1,16):=by kernel_rfl
  cases hi:Tryz.prog.info? 9 with
  |none=>rw [hi] at h;cases h
  |some i=>rw [hi] at h;simp at h;exact ⟨i,rfl,h.1,h.2.1,h.2.2⟩
/-- append of a string. -/
theorem app_str{ops:Array Oper}{rest:List Oper}{o:Oper}{a:Act}{w:World}{Q:Exit→Act→World→Prop}(hgd:o.guard=none)(s y:Operand)
    (ho:o.op= .call {callee:= .builtin .append,args:= #[s,y],argTypes:= #[34,34]})
    {b G cap:Nat} {T:Nat→Prop} {l:List ByteArray} {x:ByteArray} {v:Value} (hs:a.eval s=v) (hy:a.eval y= .slice (some ⟨G,0,none⟩) 1 cap) (hO:OwnL StrE 9 1 w b T l v)
    (hG:w.heap[G]? =some (.cells #[.string x] 9 (0,0))) (hT:∀g,T g→g<w.heap.size) (hb:b≤w.heap.size) (hl:l.length≤400000)
    (h:∀v' w' fl,(∀x∈fl,T x)→Keeps fl w w'→OwnL StrE 9 1 w' b (fun g=>T g∨(w.heap.size≤g∧g<w'.heap.size)) (l++ [x]) v'→wpList Tryz.prog ops Q rest (a.put o.dst v') w'):wpList Tryz.prog ops Q (o::rest) a w:=by
  obtain ⟨i,hi,hz,hsz,hby⟩:=info9
  exact wpList_appL strL hgd s y 34 ho Tryz.underlying34 hi hz hsz hby rfl (by decide) (by decide) hs hy hO (S:=fun _=>False) (c:= [.string x]) hG rfl (fun _ h=>h.elim) (fun _ h=>h.elim) hT hb hl
    fun v' w' fl h1 h2 h3=>h v' w' fl h1 h2 (h3.to strL fun g hg=>hg.elim .inl fun hg=>hg.elim (fun h=>h.elim) .inr)

/-! ### functions, rules -/
def FuncV(w:World)(S:Nat→Prop)(f:FuncP)(v:Value):Prop:=
  ∃pa pc b0 b1 b2 b3 b4,v= .agg #[.string f.name,.slice pa f.params.length pc,b0,b1,b2,b3,b4,.complex .f64 f.re f.im]∧SliceR StrE w S f.params (.slice pa f.params.length pc)∧NodeR w S f.body (.agg #[b0,b1,b2,b3,b4])
def FuncE(w:World)(S:Nat→Prop)(f:FuncP)(c:List Value):Prop:=
  ∃pa pc b0 b1 b2 b3 b4,c= [.string f.name,.slice pa f.params.length pc,b0,b1,b2,b3,b4,.complex .f64 f.re f.im]∧SliceR StrE w S f.params (.slice pa f.params.length pc)∧NodeR w S f.body (.agg #[b0,b1,b2,b3,b4])
theorem node_one{w:World}{S:Nat→Prop}{n:Node}{b0 b1 b2 b3 b4:Value}(h:NodeR w S n (.agg #[b0,b1,b2,b3,b4])):∀u∈ [b0,b1,b2,b3,b4],u.oneCell'=true:=nodeL.one (S:=S) (a:=n) (w:=w) ⟨rfl,h⟩
theorem funcL:ElemL FuncE 8:={
  keep:=fun ⟨pa,pc,b0,b1,b2,b3,b4,h,hp,hn⟩ hk hf hS=>⟨pa,pc,b0,b1,b2,b3,b4,h,(hp.kp strL hk hf).to strL hS,hn.keep hk hf hS⟩
  len:=fun ⟨_,_,_,_,_,_,_,h,_,_⟩=>by rw [h];rfl
  one:=fun ⟨_,_,_,_,_,_,_,h,_,hn⟩ u hu=>by
    rw [h] at hu
    simp only [List.mem_cons,List.not_mem_nil,or_false] at hu
    rcases hu with rfl|rfl|h1|h1|h1|h1|h1|rfl
    · rfl
    · rfl
    all_goals first|rfl|exact node_one hn u (by simp [h1])
  }
def RuleV(w:World)(S:Nat→Prop)(r:RuleP)(v:Value):Prop:=
  ∃pa pc b0 b1 b2 b3 b4,v= .agg #[.int .i64 r.kind,.int .i64 r.n,.slice pa r.pats.length pc,b0,b1,b2,b3,b4,.complex .f64 r.re r.im]∧KidsR w S r.pats (.slice pa r.pats.length pc)∧NodeR w S r.body (.agg #[b0,b1,b2,b3,b4])
def RuleE(w:World)(S:Nat→Prop)(r:RuleP)(c:List Value):Prop:=
  ∃pa pc b0 b1 b2 b3 b4,c= [.int .i64 r.kind,.int .i64 r.n,.slice pa r.pats.length pc,b0,b1,b2,b3,b4,.complex .f64 r.re r.im]∧KidsR w S r.pats (.slice pa r.pats.length pc)∧NodeR w S r.body (.agg #[b0,b1,b2,b3,b4])
theorem ruleL:ElemL RuleE 9:={
  keep:=fun ⟨pa,pc,b0,b1,b2,b3,b4,h,hp,hn⟩ hk hf hS=>⟨pa,pc,b0,b1,b2,b3,b4,h,hp.keep hk hf hS,hn.keep hk hf hS⟩
  len:=fun ⟨_,_,_,_,_,_,_,h,_,_⟩=>by rw [h];rfl
  one:=fun ⟨_,_,_,_,_,_,_,h,_,hn⟩ u hu=>by
    rw [h] at hu
    simp only [List.mem_cons,List.not_mem_nil,or_false] at hu
    rcases hu with rfl|rfl|rfl|h1|h1|h1|h1|h1|rfl
    · rfl
    · rfl
    · rfl
    all_goals first|rfl|exact node_one hn u (by simp [h1])
  }
theorem FuncV.kp{w w':World}{S:Nat→Prop}{fp:List Nat}{f:FuncP}{v:Value}(h:FuncV w S f v)(hk:Keeps fp w w')(hf:∀x∈fp,¬S x):FuncV w' S f v:=by
  obtain ⟨pa,pc,b0,b1,b2,b3,b4,h,hp,hn⟩:=h
  exact ⟨pa,pc,b0,b1,b2,b3,b4,h,hp.kp strL hk hf,hn.kp hk hf⟩
theorem FuncV.to{w:World}{S T:Nat→Prop}{f:FuncP}{v:Value}(h:FuncV w S f v)(hT:∀x,S x→T x):FuncV w T f v:=by
  obtain ⟨pa,pc,b0,b1,b2,b3,b4,h,hp,hn⟩:=h
  exact ⟨pa,pc,b0,b1,b2,b3,b4,h,hp.to strL hT,hn.to hT⟩
theorem RuleV.kp{w w':World}{S:Nat→Prop}{fp:List Nat}{f:RuleP}{v:Value}(h:RuleV w S f v)(hk:Keeps fp w w')(hf:∀x∈fp,¬S x):RuleV w' S f v:=by
  obtain ⟨pa,pc,b0,b1,b2,b3,b4,h,hp,hn⟩:=h
  exact ⟨pa,pc,b0,b1,b2,b3,b4,h,hp.kp hk hf,hn.kp hk hf⟩
theorem RuleV.to{w:World}{S T:Nat→Prop}{f:RuleP}{v:Value}(h:RuleV w S f v)(hT:∀x,S x→T x):RuleV w T f v:=by
  obtain ⟨pa,pc,b0,b1,b2,b3,b4,h,hp,hn⟩:=h
  exact ⟨pa,pc,b0,b1,b2,b3,b4,h,hp.to hT,hn.to hT⟩
theorem KidsR.shape{w:World}{S:Nat→Prop}{ns:List Node}{v:Value}(h:KidsR w S ns v):∃a cap,v= .slice a ns.length cap:=by
  cases h with
  |nil=>exact ⟨_,_,rfl⟩
  |some hS hg h=>exact ⟨_,_,rfl⟩
theorem SliceR.seg{α:Type}{E:World→(Nat→Prop)→α→List Value→Prop}{size:Nat}(_:ElemL E size)(hs:∀{w:World} {S:Nat→Prop} {a:α} {c:List Value},E w S a c→E w (fun g=>S g∧g<w.heap.size) a c){w:World}{S:Nat→Prop}{l:List α}{v:Value}(h:SliceR E w S l v):SliceR E w (fun g=>S g∧g<w.heap.size) l v:=by
  obtain ⟨a,cap,rfl,hcap,h⟩:=h
  refine ⟨a,cap,rfl,hcap,fun h0=> ?_⟩
  obtain ⟨g,o,xs,rfl,hS,hg,hx,hc⟩:=h h0
  exact ⟨g,o,xs,rfl,⟨hS,hg⟩,hg,hx.mono fun a c h=>hs h,hc⟩
theorem FuncV.seg{w:World}{a:Nat}{f:FuncP}{v:Value}(h:FuncV w (fun g=>a≤g) f v):FuncV w (Seg a w.heap.size) f v:=by
  obtain ⟨pa,pc,b0,b1,b2,b3,b4,h,hp,hn⟩:=h
  exact ⟨pa,pc,b0,b1,b2,b3,b4,h,hp.seg strL (fun h=>h),hn.seg⟩
theorem RuleV.seg{w:World}{a:Nat}{f:RuleP}{v:Value}(h:RuleV w (fun g=>a≤g) f v):RuleV w (Seg a w.heap.size) f v:=by
  obtain ⟨pa,pc,b0,b1,b2,b3,b4,h,hp,hn⟩:=h
  exact ⟨pa,pc,b0,b1,b2,b3,b4,h,hp.seg,hn.seg⟩

/-- The world at a step of a region that draws. -/
theorem step_at{P:Program}{ops:Array Oper}{o:Oper}{a:Act}{K:Act→World→Prop}{Q:Exit→Act→World→Prop}{Z:Prop}{W:World}(F:World→Prop)(hF:F W)
    (h:∀W',F W'→if Region.wanted o (yielded ops a.tmps)=true then Oper.wp P o a W' K Q else Z):if Region.wanted o (yielded ops a.tmps)=true then Oper.wp P o a W K Q else Z:=h W hF
end Go.Proofs.YteafcepaolofpaaGreatDoor
end
section
/- function, walked. Made by a program (parse.py, walk.py). -/
namespace Go.Proofs.YteafcepaolofpaaGreatDoor
open Go.RowKit

end Go.Proofs.YteafcepaolofpaaGreatDoor
end
