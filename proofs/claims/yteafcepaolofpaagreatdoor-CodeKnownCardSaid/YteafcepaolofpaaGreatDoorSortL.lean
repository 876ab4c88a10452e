/- Texts of this claim, joined: Rng, Kid, KinL, ShS, ShN, SortL. -/
import Derived.Test.YteafcepaolofpaaGreatDoorNamC
import Derived.Maps.RangeRun
import Derived.Test.YteafcepaolofpaaGreatDoorNamE
import Derived.Deep.Light
import Derived.Deep.CutBlock
import Derived.Deep.RegionHeld3
import Derived.Test.YteafcepaolofpaaGreatDoorTokD
import Derived.Shelf.Sort.Plain
import Derived.Test.YteafcepaolofpaaGreatDoorLevelsF
import Derived.Test.YteafcepaolofpaaGreatDoorReA
set_option maxRecDepth 100000
set_option maxHeartbeats 4000000
set_option linter.unusedSimpArgs false
set_option linter.unusedVariables false
set_option linter.unusedSectionVars false
section
/- A set of things ranged over, in whatever order; a map from things to numbers. -/
namespace Go.Proofs.YteafcepaolofpaaGreatDoor
open Go.RowKit Go.ChangeMaps

/-! ### what a map holds behind a store -/
def kput1{κ:Type}[DecidableEq κ](k:κ)(v:Value)(c:Nat):List (Ent κ)→List (Ent κ)
  | []=> [⟨k,v,c⟩]
  |e::l=>if k=e.key then {e with val:=v}::l else e::kput1 k v c l
theorem klook_succ{κ:Type}[DecidableEq κ](k:κ):∀(l:List (Ent κ)) (i:Nat),klook k l (i+1)=(klook k l i).map fun x=>(x.1+1,x.2)
  | [],_=>rfl
  | e::l,i=>by
    unfold klook
    split
    · rfl
    · exact klook_succ k l (i+1)
theorem kput_eq{κ:Type}[DecidableEq κ](k:κ)(v:Value)(c:Nat):∀l:List (Ent κ),(kput k v c l).1=kput1 k v c l
  | []=>rfl
  | e ::l=>by
    have ih:=kput_eq k v c l
    unfold kput at ih⊢
    unfold kput1 klook
    by_cases h:k=e.key
    · simp [h]
    · rw [if_neg h,if_neg h,klook_succ]
      cases h2:klook k l 0 with
      |none=>rw [h2] at ih;simpa using ih
      |some x=>rw [h2] at ih;simpa using ih
theorem kval_kput{κ:Type}[DecidableEq κ](k s:κ)(v:Value)(c:Nat):∀l:List (Ent κ),kval s (kput k v c l).1=if s=k then some v else kval s l:=by
  intro l
  rw [kput_eq]
  induction l with
  | nil=>
    unfold kput1
    rw [kval_cons]
  | cons e l ih=>
    unfold kput1
    by_cases h:k=e.key
    · rw [if_pos h,kval_cons,kval_cons]
      by_cases h2:s=e.key
      · simp [h2,h]
      · have:¬s=k:=fun h3=>h2 (h3.trans h)
        simp [h2,this]
    · rw [if_neg h,kval_cons,kval_cons,ih]
      by_cases h2:s=e.key
      · have:¬s=k:=fun h3=>h (h3.symm.trans h2)
        simp [h2]
        intro h3
        exact absurd h3.symm h
      · simp [h2]

/-- Block b is a map from things to numbers. -/
def KindW(W:World)(b:Nat)(f:Thing→Nat):Prop:=∃es k,W.heap[b]? =some (.map (ents tval es) k)∧∀t,(kval t es).getD (.int .i64 0)= .int .i64 (f t:Nat)
theorem KindW.keep{w w':World}{b:Nat}{f:Thing→Nat}{fp:List Nat}(h:KindW w b f)(hk:Keeps fp w w')(hb:b∉fp):KindW w' b f:=by
  obtain ⟨es,k,h1,h2⟩:=h;exact ⟨es,k,hk.at h1 hb,h2⟩
theorem KindW.lt{w:World}{b:Nat}{f:Thing→Nat}(h:KindW w b f):b<w.heap.size:=by obtain ⟨_,_,h1,_⟩:=h;exact h_lt h1
theorem KindW.put{w':World}{b:Nat}{f:Thing→Nat}{t:Thing}{n:Nat}{es:List (Ent Thing)}{k:Nat}(he:∀t,(kval t es).getD (.int .i64 0)= .int .i64 (f t:Nat))
    (hb:w'.heap[b]? =some (.map (ents tval (kput t (.int .i64 n) k es).1) (kput t (.int .i64 n) k es).2)):KindW w' b (fun s=>if s=t then n else f s):=by
  refine ⟨_,_,hb,fun s=> ?_⟩
  rw [kval_kput]
  by_cases h:s=t
  · simp [h]
  · simp [h,he]

/-! ### a range over a set -/
/-- Block r: an iterator over the set in block b; it has handed out p; n are to come. -/
def RangeS(W:World)(r b:Nat)(l p:List Thing)(n:Nat):Prop:=
  ∃(es ps qs:List (Ent Thing)) (k:Nat),W.heap[b]? =some (.map (ents tval es) k)∧SetL es k l∧W.heap[r]? =some (.mapIter (some b) k (ps.map (·.born)).toArray k)∧(ps++qs).Perm es∧p=ps.map (·.key)∧n=qs.length
theorem RangeS.keep{w w':World}{r b:Nat}{l p:List Thing}{n:Nat}{fp:List Nat}(h:RangeS w r b l p n)(hk:Keeps fp w w')(hb:b∉fp)(hr:r∉fp):RangeS w' r b l p n:=by
  obtain ⟨es,ps,qs,k,h1,h2,h3,h4⟩:=h;exact ⟨es,ps,qs,k,hk.at h1 hb,h2,hk.at h3 hr,h4⟩
theorem RangeS.lt{w:World}{r b:Nat}{l p:List Thing}{n:Nat}(h:RangeS w r b l p n):r<w.heap.size∧b<w.heap.size:=by
  obtain ⟨es,ps,qs,k,h1,h2,h3,h4⟩:=h;exact ⟨h_lt h3,h_lt h1⟩
theorem RangeS.start{w:World}{b:Nat}{l:List Thing}(h:SetT w b l){t e:TypeId}{T:TypeId}(hT:Tryz.prog.underlying T=some (.map t e)):
    ∃w',(Instr.range T (.map (some b))).run Tryz.prog w= .ok (.pointer (some ⟨w.heap.size,0,none⟩)) w'∧Keeps [] w w'∧w'.heap.size=w.heap.size+1∧RangeS w' w.heap.size b l [] l.length:=by
  obtain ⟨es,k,h1,h2⟩:=h
  refine ⟨_,run_range_map w T t e b _ k hT h1,kA (k0 [] w) _,by simp,es,[],es,k, ?_,h2, ?_,by simp,rfl, ?_⟩
  · rw [heap_alloc_old w _ (h_lt h1),h1]
  · rw [heap_alloc_new];rfl
  · have:=congrArg List.length h2.1
    simpa using this.symm
theorem SetL.keys{es:List (Ent Thing)}{k:Nat}{l:List Thing}(h:SetL es k l):es.map (·.key)=l:=by
  have:=congrArg (List.map Prod.fst) h.1
  simpa [List.map_map,Function.comp_def] using this
theorem ents_born(es:List (Ent Thing)):((ents tval es).toList.map (·.born))=es.map (·.born):=by simp [ents,Function.comp_def]
/-- The step: nothing is left, and all were handed out; or a thing comes. -/
theorem RangeS.next{w:World}{r b:Nat}{l p:List Thing}{n:Nat}(h:RangeS w r b l p n)(ty:TypeId):
    (p.Perm l∧(Instr.next (.pointer (some ⟨r,0,none⟩)) false ty).run Tryz.prog w= .ok (.tuple #[.bool false]) w)∨
    ∃(t:Thing) (m:Nat) (w':World),t∈l∧n=m+1∧(Instr.next (.pointer (some ⟨r,0,none⟩)) false ty).run Tryz.prog w= .ok (.tuple #[.bool true,.agg #[.int .i64 t.1,.string t.2],.agg #[]]) w'∧Keeps [r] w w'∧w'.heap.size=w.heap.size∧RangeS w' r b l (p++ [t]) m:=by
  obtain ⟨es,ps,qs,k,h1,h2,h3,h4,rfl,rfl⟩:=h
  have hborn:∀x∈(ents tval es).toList,x.born<k:=fun x hx=>by
    have:x.born∈(ents tval es).toList.map (·.born):=List.mem_map.2 ⟨x,hx,rfl⟩
    rw [ents_born] at this
    obtain ⟨e,he,hb⟩:=List.mem_map.1 this
    rw [←hb];exact h2.2.2 e he
  have hnd:((ps++qs).map (·.born)).Nodup:=(h4.map (·.born)).nodup_iff.2 h2.2.1
  rcases run_next_at (P:=Tryz.prog) w ty r b k k _ _ k h3 h1 hborn (Nat.le_refl _) with ⟨h0,hrun⟩|⟨x,hx,w1,hw1,hrun⟩
  · refine .inl ⟨?_,hrun⟩
    have hq:qs= []:=by
      cases qs with
      |nil=>rfl
      | cons e qs=>
        exfalso
        have hm:e∈es:=h4.subset (by simp)
        have hn:e.born∉ps.map (·.born):=by
          simp only [List.map_append,List.map_cons] at hnd
          intro hc
          exact (List.nodup_append.1 hnd).2.2 _ hc _ (List.mem_cons_self ..) rfl
        have:(⟨tval e.key,e.val,e.born⟩:MapEntry)∈leftOf (ents tval es) (ps.map (·.born)).toArray:=by
          unfold leftOf
          rw [Array.mem_filter]
          refine ⟨?_, ?_⟩
          · simp only [ents,List.mem_toArray,List.mem_map];exact ⟨e,hm,rfl⟩
          · simpa using hn
        rw [Array.eq_empty_of_size_eq_zero h0] at this
        simp at this
    subst hq
    rw [List.append_nil] at h4
    rw [←h2.keys]
    exact h4.map _
  · right
    have hx2:x∈leftOf (ents tval es) (ps.map (·.born)).toArray:=by simpa using hx
    unfold leftOf at hx2
    rw [Array.mem_filter] at hx2
    obtain ⟨hxm,hxn⟩:=hx2
    simp only [ents,List.mem_toArray,List.mem_map] at hxm
    obtain ⟨e,hem,rfl⟩:=hxm
    have hen:e.born∉ps.map (·.born):=by simpa using hxn
    have heq:e∈qs:=by
      have:=h4.symm.subset hem
      rcases List.mem_append.1 this with h|h
      · exact absurd (List.mem_map.2 ⟨e,h,rfl⟩) hen
      · exact h
    obtain ⟨a,c,rfl⟩:=List.append_of_mem heq
    have hv:e.val= .agg #[]:=by
      have:(e.key,e.val)∈es.map (fun e=>(e.key,e.val)):=List.mem_map.2 ⟨e,hem,rfl⟩
      rw [h2.1] at this
      obtain ⟨x,_,hx⟩:=List.mem_map.1 this
      exact (Prod.mk.inj hx).2.symm
    have hw1h:w1.heap=w.heap:=by rcases hw1 with rfl|rfl<;>rfl
    have hrl:r<w.heap.size:=h_lt h3
    have hbl:b<w.heap.size:=h_lt h1
    have hne:b≠r:=fun hc=>by subst hc;rw [h1] at h3;cases h3
    refine ⟨e.key,a.length+c.length,_, ?_,by simp;omega,by rw [hv] at hrun;exact hrun, ?_, ?_,es,ps++ [e],a++c,k, ?_,h2, ?_, ?_,by simp,by simp⟩
    · rw [←h2.keys];exact List.mem_map.2 ⟨e,hem,rfl⟩
    · rcases hw1 with rfl|rfl
      · exact ⟨rfl,rfl,rfl,by simp [setBlock],fun j hj hn=>by simp at hn;simp [setBlock,Array.getElem?_setIfInBounds,Ne.symm hn]⟩
      · exact ⟨rfl,rfl,rfl,by simp [setBlock],fun j hj hn=>by simp at hn;simp [setBlock,Array.getElem?_setIfInBounds,Ne.symm hn];rfl⟩
    · simp [setBlock,hw1h]
    · simp [setBlock,hw1h,Ne.symm hne,h1]
    · simp [setBlock,hw1h,hrl]
    · refine List.Perm.trans ?_ h4
      simp only [List.append_assoc,List.cons_append,List.nil_append]
      exact (List.perm_middle.symm).append_left ps
end Go.Proofs.YteafcepaolofpaaGreatDoor
end
section
/- Kids, uses, in whatever world of the checker's; a use that is appended. -/
namespace Go.Proofs.YteafcepaolofpaaGreatDoor
open Go.RowKit

theorem lt_cell{w:World}{g o:Nat}{v:Value}(h:w.cell? ⟨g,o,none⟩=some v):g<w.heap.size:=by
  rcases Nat.lt_or_ge g w.heap.size with h1|h1
  · exact h1
  · simp [World.cell?,Array.getElem?_eq_none h1] at h
theorem RowR.get{w:World}{S:Nat→Prop}{g:Nat}:∀{ns:List Node} {o:Nat},RowR w S g o ns→∀{i:Nat} (hi:i<ns.length),∃c0 c1 c2 c3 c4,w.cell? ⟨g,o+i*5,none⟩=some c0∧w.cell? ⟨g,o+i*5+1,none⟩=some c1∧w.cell? ⟨g,o+i*5+2,none⟩=some c2∧w.cell? ⟨g,o+i*5+3,none⟩=some c3∧w.cell? ⟨g,o+i*5+4,none⟩=some c4∧NodeR w S ns[i] (.agg #[c0,c1,c2,c3,c4])
  | [],_,_,i,hi=>by simp at hi
  | n ::ns,o,h,i,hi=>by
    cases h with
    | cons hn h0 h1 h2 h3 h4 hr=>
      cases i with
      |zero=>exact ⟨_,_,_,_,_,by simpa using h0,by simpa using h1,by simpa using h2,by simpa using h3,by simpa using h4,hn⟩
      | succ i=>
        have:=RowR.get hr (i:=i) (by simpa using hi)
        rw [show o+5+i*5=o+(i+1)*5 from by omega] at this
        simpa using this
theorem NodeR.kids{w:World}{S:Nat→Prop}{n:Node}{v:Value}(h:NodeR w S n v):∃fm na nc,v= .agg #[.int .i64 n.kind,.string n.name,.float .f64 fm,.slice na n.kids.length nc,.complex .f64 n.re n.im]∧KidsR w S n.kids (.slice na n.kids.length nc):=by
  cases h with
  | mk hk=>
    obtain ⟨a,cap,rfl⟩:=hk.shape
    exact ⟨_,_,_,rfl,hk⟩
/-- A kid, in whatever world of the checker's. -/
theorem CK.kid{K:CKey}{T:Nat→Prop}{ua:Option Addr}{uc:Nat}{st:NS}{W:World}(h:CK K T ua uc st W){kids:List Node}{a:Option Addr}{cap:Nat}(hs:KidsR K.w0 (fun _=>True) kids (.slice a kids.length cap)){i:Nat}(hi:i<kids.length):
    ∃ g o fm na nc,a=some ⟨g,o,none⟩∧W.cell? ⟨g,o+i*5,none⟩=some (.int .i64 kids[i].kind)∧W.cell? ⟨g,o+i*5+1,none⟩=some (.string kids[i].name)∧W.cell? ⟨g,o+i*5+2,none⟩=some (.float .f64 fm)∧W.cell? ⟨g,o+i*5+3,none⟩=some (.slice na kids[i].kids.length nc)∧W.cell? ⟨g,o+i*5+4,none⟩=some (.complex .f64 kids[i].re kids[i].im)∧
      NodeR K.w0 (fun _=>True) kids[i] (.agg #[.int .i64 kids[i].kind,.string kids[i].name,.float .f64 fm,.slice na kids[i].kids.length nc,.complex .f64 kids[i].re kids[i].im]):=by
  have key:∃g o,a=some ⟨g,o,none⟩∧g<K.w0.heap.size∧RowR K.w0 (fun _=>True) g o kids:=by
    generalize hv:Value.slice a kids.length cap=v at hs
    cases hs with
    |nil=>simp at hi
    |some hS hg hr=>injection hv with e1;exact ⟨_,_,e1,hg,hr⟩
  obtain ⟨g,o,rfl,hg,hr⟩:=key
  obtain ⟨c0,c1,c2,c3,c4,h0,h1,h2,h3,h4,hn⟩:=hr.get hi
  obtain ⟨fm,na,nc,hv,hk⟩:=hn.kids
  simp only [Value.agg.injEq,Array.mk.injEq,List.cons.injEq,and_true] at hv
  obtain ⟨rfl,rfl,rfl,rfl,rfl⟩:=hv
  have hc:∀j u,K.w0.cell? ⟨g,j,none⟩=some u→W.cell? ⟨g,j,none⟩=some u:=fun j u hj=>by
    rw [World.cell?_of_block (w:=K.w0) (a:=⟨g,j,none⟩) (h.keep.block g hg (by simp))];exact hj
  exact ⟨g,o,fm,na,nc,rfl,hc _ _ h0,hc _ _ h1,hc _ _ h2,hc _ _ h3,hc _ _ h4,hn⟩
/-- A use, read. -/
theorem CK.use{K:CKey}{T:Nat→Prop}{ua:Option Addr}{uc:Nat}{st:NS}{W:World}(h:CK K T ua uc st W){i:Nat}(hi:i<st.uses.length):
    ∃ g,ua=some ⟨g,0,none⟩∧W.cell? ⟨g,i*8,none⟩=some (.complex .f64 st.uses[i].re st.uses[i].im)∧W.cell? ⟨g,i*8+1,none⟩=some (.int .i64 st.uses[i].of.1)∧W.cell? ⟨g,i*8+2,none⟩=some (.string st.uses[i].of.2)∧W.cell? ⟨g,i*8+3,none⟩=some (.bool st.uses[i].array)∧
      W.cell? ⟨g,i*8+4,none⟩=some (.int .i64 st.uses[i].param.1)∧W.cell? ⟨g,i*8+5,none⟩=some (.string st.uses[i].param.2)∧W.cell? ⟨g,i*8+6,none⟩=some (.bool st.uses[i].kid)∧W.cell? ⟨g,i*8+7,none⟩=some (.bool st.uses[i].bad):=by
  obtain ⟨xs,ho,ht,hx⟩:=h.uses
  rcases ho.2 with ⟨_,hn⟩|⟨g,cap,cur,hv,hb,hg,h1,h2,h3,h4⟩
  · omega
  · have hua:ua=some ⟨g,0,none⟩:=by injection hv
    obtain ⟨c,hc,hj⟩:=hx.get (fun a c h=>useL.len h) i hi
    have hc':c= [.complex .f64 st.uses[i].re st.uses[i].im,.int .i64 st.uses[i].of.1,.string st.uses[i].of.2,.bool st.uses[i].array,.int .i64 st.uses[i].param.1,.string st.uses[i].param.2,.bool st.uses[i].kid,.bool st.uses[i].bad]:=hc
    have key:∀j u,c[j]? =some u→W.cell? ⟨g,i*8+j,none⟩=some u:=fun j u h=>by
      rw [cell_of_heap hg]
      have h5:(cur.toList.take (st.uses.length*8))[i*8+j]? =some u:=by rw [h4];exact hj j u h
      rw [List.getElem?_take] at h5
      split at h5
      · simpa using h5
      · cases h5
    subst hc'
    exact ⟨g,hua,key 0 _ rfl,key 1 _ rfl,key 2 _ rfl,key 3 _ rfl,key 4 _ rfl,key 5 _ rfl,key 6 _ rfl,key 7 _ rfl⟩

theorem useF_some{st st':NS}{u:Use}(h:useF st u=some st'):st.uses.length<400000∧st'={st with uses:=st.uses++ [u]}:=by
  unfold useF at h
  split at h
  · rename_i hl;exact ⟨hl,by simpa using h.symm⟩
  · cases h
/-- A use was appended: the checker behind it. -/
theorem CK.app{K:CKey}(hK:CFix K){T:Nat→Prop}{ua a2:Option Addr}{uc c2:Nat}{st:NS}{u:Use}{base W0 wq wa W':World}{fl:List Nat}(hs0:CStep K T T base W0)(h:CK K T ua uc st W0)(hq:Keeps [] W0 wq)(hfl:∀x∈fl,T x)(hka:Keeps fl wq wa)
    (hown:OwnL UseE 141 8 wa K.w0.heap.size (fun g=>T g∨False∨(wq.heap.size≤g∧g<wa.heap.size)) (st.uses++ [u]) (.slice a2 (st.uses++ [u]).length c2)) (hk:Keeps [K.c] wa W') (hr:W'.heap[K.c]? =some (ckC K {st with uses:=st.uses++ [u]} a2 c2)):
    ∃T' ua' uc',CK K T' ua' uc' {st with uses:=st.uses++ [u]} W'∧CStep K T T' base W':=by
  have hcq:=h.kp0 hq
  have hlt:=hcq.lt
  have nf:∀b,¬T b→b∉fl:=fun b hb hm=>hb (hfl b hm)
  refine ⟨fun g=>T g∨False∨(wq.heap.size≤g∧g<wa.heap.size),a2,c2,⟨(hcq.keep.trans hka fun x hx=> .inr (hcq.dn x (hfl x hx))).trans hk (by simp;exact hK.c),hr,(hcq.fns.keep hka (nf _ hcq.ns.2.1)).keep hk (by simp [Ne.symm hK.ne.1]),(hcq.same.keep hka (nf _ hcq.ns.2.2.1)).keep hk (by simp [Ne.symm hK.ne.2.1]),(hcq.seen.keep hka (nf _ hcq.ns.2.2.2)).keep hk (by simp [Ne.symm hK.ne.2.2.1]),hown.kp useL hk ?_,fun x hx=> ?_,fun x hx=> ?_, ?_,hcq.fn,hcq.loops⟩,(hs0.loc hq (by simp)).trans ⟨fun x hx=> ?_,fl++ [K.c],fun x hx=> ?_, ?_⟩⟩
  · intro x hx hx2
    simp at hx;subst hx
    rcases hx2 with h1|h1|h1
    · exact hcq.ns.1 h1
    · exact h1
    · exact Nat.not_lt_of_le h1.1 hlt.1
  · rcases hx with h1|h1|h1
    · exact Nat.lt_of_lt_of_le (hcq.up x h1) (Nat.le_trans hka.size hk.size)
    · exact h1.elim
    · exact Nat.lt_of_lt_of_le h1.2 hk.size
  · rcases hx with h1|h1|h1
    · exact hcq.dn x h1
    · exact h1.elim
    · exact Nat.le_trans hcq.keep.size h1.1
  · exact ⟨fun h=>h.elim hcq.ns.1 fun h=>h.elim id fun h=>Nat.not_lt_of_le h.1 hlt.1,fun h=>h.elim hcq.ns.2.1 fun h=>h.elim id fun h=>Nat.not_lt_of_le h.1 hlt.2.1,fun h=>h.elim hcq.ns.2.2.1 fun h=>h.elim id fun h=>Nat.not_lt_of_le h.1 hlt.2.2.1,fun h=>h.elim hcq.ns.2.2.2 fun h=>h.elim id fun h=>Nat.not_lt_of_le h.1 hlt.2.2.2⟩
  · rcases hx with h1|h1|h1
    · exact .inl h1
    · exact h1.elim
    · exact .inr ⟨h1.1,Nat.lt_of_lt_of_le h1.2 hk.size⟩
  · rcases List.mem_append.1 hx with hx|hx
    · exact .inr (.inr (.inr (hfl x hx)))
    · simp at hx;exact .inl hx
  · exact (hka.weaken (fp':=fl++ [K.c]) (fun x hx=> .inl (List.mem_append_left _ hx))).trans hk (by simp)
theorem CK.app'{K:CKey}(hK:CFix K){T0 T:Nat→Prop}{ua a2:Option Addr}{uc c2 B:Nat}{ob:Obj}{st:NS}{u:Use}{w base W0 wq wa W':World}{fl:List Nat}(hs1:CStep K T0 T w base)(hB:base.heap[B]? =some ob)(ho:Off K T B)(hs0:CStep K T T base W0)(h:CK K T ua uc st W0)(hq:Keeps [] W0 wq)(hfl:∀x∈fl,T x)(hka:Keeps fl wq wa)
    (hown:OwnL UseE 141 8 wa K.w0.heap.size (fun g=>T g∨False∨(wq.heap.size≤g∧g<wa.heap.size)) (st.uses++ [u]) (.slice a2 (st.uses++ [u]).length c2)) (hk:Keeps [K.c] wa W') (hr:W'.heap[K.c]? =some (ckC K {st with uses:=st.uses++ [u]} a2 c2)):
    ∃T' ua' uc',CK K T' ua' uc' {st with uses:=st.uses++ [u]} W'∧CStep K T0 T' w W'∧W'.heap[B]? =some ob∧Off K T' B:=by
  obtain ⟨T',ua',uc',h1,h2⟩:=CK.app hK hs0 h hq hfl hka hown hk hr
  exact ⟨T',ua',uc',h1,hs1.trans h2,h2.at hB ho,h2.off (h_lt hB) ho⟩
/-- Blocks turned that are newer than a world in which the checker stood. -/
theorem CK.news{K:CKey}{T:Nat→Prop}{ua:Option Addr}{uc:Nat}{st0 st:NS}{base u W:World}{fp:List Nat}(hb:CK K T ua uc st0 base)(h:CK K T ua uc st u)(hk:Keeps fp u W)(hf:∀z∈fp,base.heap.size≤z):CK K T ua uc st W:=by
  have hl:=hb.lt
  have ne:∀b,b<base.heap.size→b∉fp:=fun b hb hm=>Nat.not_lt_of_le (hf b hm) hb
  exact h.kp hk (fun z hz=>Nat.le_trans hb.keep.size (hf z hz)) (ne _ hl.1) (ne _ hl.2.1) (ne _ hl.2.2.1) (ne _ hl.2.2.2) (fun z hz ht=>Nat.not_lt_of_le (hf z hz) (hb.up z ht))
theorem rootF_root{m:List (Thing×Thing)}:∀{f:Nat} {t r:Thing},rootF m f t=some r→alook r m=none
  |0,_,_,h=>by cases h
  | f+1,t,r,h=>by
    rw [rootF] at h
    cases ha:alook t m with
    |none=>rw [ha] at h;simp at h;rw [←h];exact ha
    |some u=>rw [ha] at h;exact rootF_root (f:=f) h
theorem CStep.ms{K:CKey}{T0 T:Nat→Prop}{w W W':World}(h:CStep K T0 T w W)(hk:Keeps [K.ms] W W'):CStep K T0 T w W':=
  h.trans ⟨fun _ h=> .inl h,[K.ms],by simp,hk⟩
/-- Two things are one. -/
theorem CK.unite{K:CKey}(hK:CFix K){T:Nat→Prop}{ua:Option Addr}{uc:Nat}{st:NS}{W W':World}(h:CK K T ua uc st W){t u:Thing}(hn:alook t st.same=none){es:List (Ent Thing)}{k:Nat}(he:es.map (fun e=>(e.key,e.val))=st.same.map (fun x=>(x.1,tval x.2)))(hk:Keeps [K.ms] W W')
    (hb:W'.heap[K.ms]? =some (.map (ents tval (kput t (tval u) k es).1) (kput t (tval u) k es).2)):CK K T ua uc {st with same:=st.same++ [(t,u)]} W':=
  ⟨h.keep.trans hk (by simp;exact hK.ms),hk.at h.row (by simp [hK.ne.2.1]),h.fns.keep hk (by simp [hK.ne.2.2.2.1]),MapT.put he hn hb,h.seen.keep hk (by simp [Ne.symm hK.ne.2.2.2.2.2]),h.uses.kp useL hk (by simp;exact h.ns.2.2.1),fun x hx=>Nat.lt_of_lt_of_le (h.up x hx) hk.size,h.dn,h.ns,h.fn,h.loops⟩
theorem run_same{K:CKey}{es:List (Ent Thing)}{k:Nat}{W:World}(hb:W.heap[K.ms]? =some (.map (ents tval es) k))(a b:Thing):
    (Instr.mapUpdate 88 (.map (some K.ms)) (.agg #[.int .i64 a.1,.string a.2]) (.agg #[.int .i64 b.1,.string b.2])).run Tryz.prog W= .ok () (mset W K.ms (.map (ents tval (kput a (tval b) k es).1) (kput a (tval b) k es).2)):=
  run_kput (P:=Tryz.prog) keyT Tryz.underlying88 hb a (tval b)
theorem preF_mk(g:ProgP)(st:NS)(kd:Int)(tx:ByteArray)(fm:Nat)(kids:List Node)(re im:Nat):preF g st (.mk kd tx fm kids re im)=
    if kd=4 then useF (ofF g (namedF g st (.mk kd tx fm kids re im)) tx).2 ⟨re,im,(ofF g (namedF g st (.mk kd tx fm kids re im)) tx).1,false,noT,false,false⟩
    else if kd=5 then useF (ofF g (namedF g st (.mk kd tx fm kids re im)) tx).2 ⟨re,im,(ofF g (namedF g st (.mk kd tx fm kids re im)) tx).1,true,noT,false,false⟩
    else if kd=38 then some (if st.fn>0∨(st.rule≠5∧st.rule≠6∧st.rule≠7) then faultF st re im 32 else st)
    else if kd=40 then some (if st.fn=0 then faultF st re im 32 else st)
    else if kd=36∨kd=37 then some (if st.loops=0 then faultF st re im 32 else st)
    else some st:=rfl
/-- A walk of nodes answers as the plain one. -/
def NodeC(K:CKey)(rec:NRec):Prop:=∀st n st' v,rec st n=some st'→NodeR K.w0 (fun _=>True) n v→∀T ua uc w,CK K T ua uc st w→Calls Tryz.prog 66 #[.pointer (some ⟨K.c,0,none⟩),v] w fun r w'=>∃T' ua' uc',r= .returned (.tuple #[])∧CK K T' ua' uc' st' w'∧CStep K T T' w w'
theorem ofF_uses(g:ProgP)(st:NS)(name:ByteArray):(ofF g st name).2.uses=st.uses:=by unfold ofF;split<;>rfl
theorem of_at{K:CKey}(hK:CFix K){T:Nat→Prop}{ua:Option Addr}{uc:Nat}{st:NS}{base:World}(h:CK K T ua uc st base)(name:ByteArray):∀W,Keeps [] base W→Calls Tryz.prog 107 #[.pointer (some ⟨K.c,0,none⟩),.string name] W fun r w'=>∃v,r= .returned v∧(v= .agg #[.int .i64 (ofF K.g st name).1.1,.string (ofF K.g st name).1.2]∧CK K T ua uc (ofF K.g st name).2 w'∧CStep K T T base w'):=
  fun W hk=>(of_any hK (h.kp0 hk) name).mono fun _ _ ⟨h1,h2,h3⟩=>⟨_,h1,rfl,h2,((CStep.refl K T base).loc hk (by simp)).trans h3⟩
theorem root_at{K:CKey}{T:Nat→Prop}{ua:Option Addr}{uc:Nat}{st:NS}{base:World}(h:CK K T ua uc st base){t r:Thing}{fu:Nat}(hx:rootF st.same fu t=some r):∀W,Keeps [] base W→Calls Tryz.prog 68 #[.pointer (some ⟨K.c,0,none⟩),.agg #[.int .i64 t.1,.string t.2]] W fun q w'=>∃v,q= .returned v∧(v= .agg #[.int .i64 r.1,.string r.2]∧Keeps [] W w'):=
  fun W hk=>(root_any (h.kp0 hk) hx).mono fun _ _ ⟨h1,h2⟩=>⟨_,h1,rfl,h2⟩
end Go.Proofs.YteafcepaolofpaaGreatDoor
end
section
/- kinds: the plain laws, and what a map of kinds is in memory. -/
namespace Go.Proofs.YteafcepaolofpaaGreatDoor
open Go.RowKit Go.ChangeMaps

def rootD(st:NS)(t:Thing):Thing:=(rootN st t).getD noT
def spG(t:Thing):Bool:=decide (t.1=0)&&specialF t.2
def spK(st:NS)(x t:Thing):Bool:=spG t&&teq x (rootD st t)
theorem kindsS_ok{st:NS}:∀{l:List Thing} {k0 k:Kinds},kindsS st l k0=some k→(∀t∈l,spG t=true→rootN st t=some (rootD st t))∧∀x,kof x k=if l.any (spK st x)=true then 1 else kof x k0
  | [],k0,k,h=>by
    simp only [kindsS,Option.some.injEq] at h
    subst h
    exact ⟨by simp,by simp⟩
  | t ::l,k0,k,h=>by
    unfold kindsS at h
    by_cases hs:t.1=0∧specialF t.2=true
    · rw [if_pos hs] at h
      have hg:spG t=true:=by simp [spG,hs.1,hs.2]
      simp only [Option.bind_eq_bind,Option.bind_eq_some_iff] at h
      obtain ⟨r,hr,h⟩:=h
      have hD:rootD st t=r:=by unfold rootD;rw [hr];rfl
      obtain ⟨h1,h2⟩:=kindsS_ok h
      refine ⟨fun u hu hg=> ?_,fun x=> ?_⟩
      · rcases List.mem_cons.1 hu with rfl|hu
        · rw [hr,hD]
        · exact h1 u hu hg
      · have e2:kof x ((r,1)::k0)=if teq x r then 1 else kof x k0:=by rw [kof]
        rw [h2 x,List.any_cons,e2]
        have e:spK st x t=teq x r:=by unfold spK;rw [hg,hD];rfl
        rw [e]
        by_cases h3:teq x r=true
        · simp [h3]
        · simp only [Bool.not_eq_true] at h3
          rw [h3,Bool.false_or]
          rfl
    · rw [if_neg hs] at h
      have hg:spG t=false:=by
        unfold spG
        by_cases h0:t.1=0
        · simp [h0];cases h4:specialF t.2 with
          |false=>rfl
          |true=>exact absurd ⟨h0,h4⟩ hs
        · simp [h0]
      obtain ⟨h1,h2⟩:=kindsS_ok h
      refine ⟨fun u hu hgu=> ?_,fun x=> ?_⟩
      · rcases List.mem_cons.1 hu with rfl|hu
        · rw [hg] at hgu;cases hgu
        · exact h1 u hu hgu
      · rw [h2 x,List.any_cons]
        have e:spK st x t=false:=by unfold spK;rw [hg];rfl
        rw [e];rfl
theorem any_perm{α:Type}{f:α→Bool}{p l:List α}(h:p.Perm l):p.any f=l.any f:=by
  induction h with
  |nil=>rfl
  |cons x _ ih=>simp [ih]
  |swap x y l=>simp [Bool.or_left_comm]
  |trans _ _ h1 h2=>exact h1.trans h2
theorem KindW.start{w:World}{b:Nat}(h:w.heap[b]? =some (.map #[] 0)):KindW w b (fun _=>0):=⟨[],0,h,fun _=>rfl⟩
theorem KindW.of{w:World}{b:Nat}{f g:Thing→Nat}(h:KindW w b f)(e:∀x,f x=g x):KindW w b g:=by
  have:f=g:=funext e
  rw [←this];exact h
theorem KindW.look{w:World}{b:Nat}{f:Thing→Nat}(h:KindW w b f)(t:Thing){n:Nat}(hn:n=f t):(Instr.lookup 138 (.map (some b)) (.agg #[.int .i64 t.1,.string t.2]) false).run Tryz.prog w= .ok (.int .i64 n) w:=by
  obtain ⟨es,k,h1,h2⟩:=h
  have:=run_klook (P:=Tryz.prog) keyT Tryz.underlying138 (z:= .int .i64 0) (w:=w) (by simp [go_sem]) h1 t
  rw [hn,←h2 t]
  exact this
theorem run_kind{b:Nat}{es:List (Ent Thing)}{k:Nat}{W:World}(hb:W.heap[b]? =some (.map (ents tval es) k))(a:Thing)(n:Int):
    (Instr.mapUpdate 138 (.map (some b)) (.agg #[.int .i64 a.1,.string a.2]) (.int .i64 n)).run Tryz.prog W= .ok () (mset W b (.map (ents tval (kput a (.int .i64 n) k es).1) (kput a (.int .i64 n) k es).2)):=
  run_kput (P:=Tryz.prog) keyT Tryz.underlying138 hb a (.int .i64 n)
theorem RangeS.entry{w:World}{r b n:Nat}{l p:List Thing}{t:Thing}(h:RangeS w r b l (p++ [t]) n):
    (Instr.entry (.pointer (some ⟨r,0,none⟩))).run Tryz.prog w= .ok (.tuple #[.agg #[.int .i64 t.1,.string t.2],.agg #[]]) w:=by
  obtain ⟨es,ps,qs,k,h1,h2,h3,h4,h5,rfl⟩:=h
  have hne:ps≠ []:=fun e=>by rw [e] at h5;simp at h5
  obtain ⟨qs',e,rfl⟩:∃a e,ps=a++ [e]:=⟨ps.dropLast,ps.getLast hne,(List.dropLast_concat_getLast hne).symm⟩
  have hk:e.key=t:=by
    simp only [List.map_append,List.map_cons,List.map_nil] at h5
    exact (List.append_inj_right' h5 rfl|>fun h=>by simpa using h.symm)
  have hem:e∈es:=h4.subset (by simp)
  have hv:e.val= .agg #[]:=by
    have:(e.key,e.val)∈es.map (fun e=>(e.key,e.val)):=List.mem_map.2 ⟨e,hem,rfl⟩
    rw [h2.1] at this
    obtain ⟨x,_,hx⟩:=List.mem_map.1 this
    exact (Prod.mk.inj hx).2.symm
  have hn:((ents tval es).toList.map (·.born)).Nodup:=by rw [ents_born];exact h2.2.1
  have h3':w.heap[r]? =some (.mapIter (some b) k ((qs'.map (·.born)).toArray.push e.born) k):=by simpa using h3
  have:=run_entry_at (P:=Tryz.prog) w r b k _ _ k (⟨tval e.key,e.val,e.born⟩:MapEntry) h3' h1 (by simp [ents];exact ⟨e,hem,rfl,rfl,rfl⟩) hn
  rw [hv,hk] at this
  exact this
end Go.Proofs.YteafcepaolofpaaGreatDoor
end
section
/- sort.Strings, laid at this program. Made by a program (mkSh.py). -/
namespace Go.Proofs.YteafcepaolofpaaGreatDoor
open Go.Shelf Go.Sort Go.RowKit
def laysRen:Go.Shelf.Ren:=⟨fun|192=>69|190=>111|125=>147|258=>146|128=>171|129=>172|302=>162|303=>163|304=>164|305=>165|306=>166|307=>167|308=>168|309=>169|310=>170|333=>190|329=>191|330=>192|334=>193|335=>194|336=>195|344=>207|n=>n,fun|31=>34|0=>0|9=>9|3=>3|46=>205|51=>224|53=>226|4=>4|183=>218|182=>217|131=>132|5=>5|218=>237|222=>241|228=>254|229=>83|n=>n,fun n=>n⟩
theorem laysSort:Lays.n192 Tryz.prog laysRen:={
  mixed:=by kernel_rfl
  f125:=Tryz.func147.trans (congrArg some (by kernel_rfl))
  f128:=Tryz.func171.trans (congrArg some (by kernel_rfl))
  f129:=Tryz.func172.trans (congrArg some (by kernel_rfl))
  f190:=Tryz.func111.trans (congrArg some (by kernel_rfl))
  f192:=Tryz.func69.trans (congrArg some (by kernel_rfl))
  f258:=Tryz.func146.trans (congrArg some (by kernel_rfl))
  f302:=Tryz.func162.trans (congrArg some (by kernel_rfl))
  f303:=Tryz.func163.trans (congrArg some (by kernel_rfl))
  f304:=Tryz.func164.trans (congrArg some (by kernel_rfl))
  f305:=Tryz.func165.trans (congrArg some (by kernel_rfl))
  f306:=Tryz.func166.trans (congrArg some (by kernel_rfl))
  f307:=Tryz.func167.trans (congrArg some (by kernel_rfl))
  f308:=Tryz.func168.trans (congrArg some (by kernel_rfl))
  f309:=Tryz.func169.trans (congrArg some (by kernel_rfl))
  f310:=Tryz.func170.trans (congrArg some (by kernel_rfl))
  f329:=Tryz.func191.trans (congrArg some (by kernel_rfl))
  f330:=Tryz.func192.trans (congrArg some (by kernel_rfl))
  f333:=Tryz.func190.trans (congrArg some (by kernel_rfl))
  f334:=Tryz.func193.trans (congrArg some (by kernel_rfl))
  f335:=Tryz.func194.trans (congrArg some (by kernel_rfl))
  f336:=Tryz.func195.trans (congrArg some (by kernel_rfl))
  f344:=Tryz.func207.trans (congrArg some (by kernel_rfl))
  t0:=Tryz.underlying0
  a0:=Tryz.isAgg0
  z0:=Tryz.sizeOf0
  v0:=Tryz.zeroValue0
  t3:=Tryz.underlying3
  a3:=Tryz.isAgg3
  z3:=Tryz.sizeOf3
  v3:=Tryz.zeroValue3
  t4:=Tryz.underlying4
  a4:=Tryz.isAgg4
  z4:=Tryz.sizeOf4
  v4:=Tryz.zeroValue4
  t5:=Tryz.underlying5
  a5:=Tryz.isAgg5
  z5:=Tryz.sizeOf5
  v5:=Tryz.zeroValue5
  t9:=Tryz.underlying9
  a9:=Tryz.isAgg9
  z9:=Tryz.sizeOf9
  v9:=Tryz.zeroValue9
  t31:=Tryz.underlying34
  a31:=Tryz.isAgg34
  z31:=Tryz.sizeOf34
  v31:=Tryz.zeroValue34
  t46:=Tryz.underlying205
  a46:=Tryz.isAgg205
  z46:=Tryz.sizeOf205
  v46:=Tryz.zeroValue205
  t51:=Tryz.underlying224
  a51:=Tryz.isAgg224
  z51:=Tryz.sizeOf224
  v51:=Tryz.zeroValue224
  t53:=Tryz.underlying226
  a53:=Tryz.isAgg226
  z53:=Tryz.sizeOf226
  v53:=Tryz.zeroValue226
  t131:=Tryz.underlying132
  a131:=Tryz.isAgg132
  z131:=Tryz.sizeOf132
  v131:=Tryz.zeroValue132
  t182:=Tryz.underlying217
  a182:=Tryz.isAgg217
  z182:=Tryz.sizeOf217
  v182:=Tryz.zeroValue217
  t183:=Tryz.underlying218
  a183:=Tryz.isAgg218
  z183:=Tryz.sizeOf218
  v183:=Tryz.zeroValue218
  t218:=Tryz.underlying237
  a218:=Tryz.isAgg237
  z218:=Tryz.sizeOf237
  v218:=Tryz.zeroValue237
  t222:=Tryz.underlying241
  a222:=Tryz.isAgg241
  z222:=Tryz.sizeOf241
  v222:=Tryz.zeroValue241
  t228:=Tryz.underlying254
  a228:=Tryz.isAgg254
  z228:=Tryz.sizeOf254
  v228:=Tryz.zeroValue254
  t229:=Tryz.underlying83
  a229:=Tryz.isAgg83
  z229:=Tryz.sizeOf83
  v229:=Tryz.zeroValue83}
theorem strings_any(blk off cap:Nat)(ss:List (List UInt8))(w:World)(hH:Holds encStr w blk off ss.toArray)(hblk:blk<w.heap.size)(hsz:ss.length<4611686018427387904):
    Calls Tryz.prog 69 #[.slice (some ⟨blk,off,none⟩) ss.length cap] w fun e w'=>
      e= .returned (.tuple #[])∧∃n os,w'=grow (putRow encStr (Sort.ahead w n) blk off (ss.mergeSort fun x y=>decide (x≤y)).toArray) os:=
  Any.sort_Strings laysSort blk off cap ss w hH hblk hsz
end Go.Proofs.YteafcepaolofpaaGreatDoor
end
section
/- sort.Strings of a nil slice. -/
namespace Go.Proofs.YteafcepaolofpaaGreatDoor
open Go.RowKit
theorem insertion_nil(w:World):Calls Tryz.prog 162 #[.slice none 0 0,.int .i64 0,.int .i64 0] w fun e w'=>e= .returned (.tuple #[])∧Keeps [] w w':=by
  go_enter Tryz.func162,Tryz.ntmps162
  go_wp2_with fail
  go_loopg [6] 1 (fun g j wr=>wr=w∧j= .int .i64 1)
  case atStart=>exact ⟨rfl,rfl⟩
  case round=>
    obtain ⟨rfl,rfl⟩:=hrel
    go_wp2_with fail
    go_end0
    exact ⟨rfl,Keeps.refl [] _⟩
theorem pdq_nil(w:World)(l:Int):Calls Tryz.prog 146 #[.slice none 0 0,.int .i64 0,.int .i64 0,.int .i64 l] w fun e w'=>e= .returned (.tuple #[])∧Keeps [] w w':=by
  go_enter Tryz.func146,Tryz.ntmps146
  go_wp2_with fail
  go_loopg [1,2] 1 (fun g j k wr=>wr=w∧j= .int .i64 0∧k= .int .i64 0)
  case atStart=>exact ⟨rfl,rfl,rfl⟩
  case round=>
    obtain ⟨rfl,rfl,rfl⟩:=hrel
    go_wp2_with fail
    refine (insertion_nil _).mono ?_
    rintro r w' ⟨rfl,hk⟩
    go_wp2_with fail
    exact bodyPost_ret (v:= .tuple #[]) (by simp [results,Tryz.results146]) rfl ⟨rfl,hk⟩
theorem len_0(w:World):Calls Tryz.prog 147 #[.int .u64 0] w fun e w'=>∃l,e= .returned (.int .i64 l)∧w'=w:=by
  go_enter Tryz.func147,Tryz.ntmps147
  go_wp2
  exact bodyPost_ret (by simp [results,Tryz.results147]<;>rfl) rfl ⟨_,rfl,rfl⟩
theorem sort_nil(w:World):Calls Tryz.prog 111 #[.slice none 0 0] w fun e w'=>e= .returned (.tuple #[])∧Keeps [] w w':=by
  go_enter Tryz.func111,Tryz.ntmps111
  go_wp2_with fail
  refine (len_0 _).mono ?_
  rintro r w' ⟨l,rfl,rfl⟩
  go_wp2_with fail
  refine (pdq_nil _ l).mono ?_
  rintro r w2 ⟨rfl,hk⟩
  go_wp2_with fail
  go_end0
  exact ⟨rfl,hk⟩
theorem strings_nil(w:World):Calls Tryz.prog 69 #[.slice none 0 0] w fun e w'=>e= .returned (.tuple #[])∧Keeps [] w w':=by
  go_enter Tryz.func69,Tryz.ntmps69
  go_wp2_with fail
  refine (sort_nil _).mono ?_
  rintro r w2 ⟨rfl,hk⟩
  go_wp2_with fail
  go_end0
  exact ⟨rfl,hk⟩
end Go.Proofs.YteafcepaolofpaaGreatDoor
end
section
/- sort.Strings: what it makes of a slice of one's own. -/
namespace Go.Proofs.YteafcepaolofpaaGreatDoor
open Go.RowKit Go.Sort

theorem ltB_iff:∀{x y:List UInt8},ltB x y=true↔x<y
  | [],[]=>by simp [ltB]
  |_::_,[]=>by simp [ltB]
  | [],_::_=>by simp [ltB]
  | a ::x,b::y=>by
    rw [List.cons_lt_cons_iff,ltB]
    by_cases h:a<b
    · simp [h]
    · rw [if_neg h]
      by_cases h2:b<a
      · rw [if_pos h2]
        have:a≠b:=fun e=>by subst e;exact h h2
        simp [h,this]
      · rw [if_neg h2,ltB_iff]
        have:a=b:=UInt8.le_antisymm (UInt8.not_lt.1 h2) (UInt8.not_lt.1 h)
        simp [this]
theorem insB_perm(s:ByteArray):∀l,List.Perm (insB s l) (s::l)
  | []=>List.Perm.refl _
  | x::l=>by
    rw [insB]
    split
    · exact ((insB_perm s l).cons x).trans (List.Perm.swap s x l)
    · exact List.Perm.refl _
theorem sortB_perm:∀l,List.Perm (sortB l) l
  | []=>List.Perm.refl _
  |x::l=>(insB_perm x (sortB l)).trans ((sortB_perm l).cons x)
def leS(x y:ByteArray):Prop:=x.data.toList≤y.data.toList
theorem insB_sorted(s:ByteArray):∀l,l.Pairwise leS→(insB s l).Pairwise leS
  | [],_=>by simp [insB]
  | x ::l,h=>by
    rw [List.pairwise_cons] at h
    rw [insB]
    split
    · rename_i hlt
      rw [List.pairwise_cons]
      refine ⟨fun y hy=> ?_,insB_sorted s l h.2⟩
      rcases List.mem_cons.1 ((insB_perm s l).mem_iff.1 hy) with rfl|hy
      · exact List.le_of_lt (ltB_iff.1 hlt)
      · exact h.1 y hy
    · rename_i hlt
      have hsx:leS s x:=List.not_lt.1 fun h2=>hlt (ltB_iff.2 h2)
      rw [List.pairwise_cons,List.pairwise_cons]
      refine ⟨fun y hy=> ?_,h.1,h.2⟩
      rcases List.mem_cons.1 hy with rfl|hy
      · exact hsx
      · exact List.le_trans hsx (h.1 y hy)
theorem sortB_sorted:∀l,(sortB l).Pairwise leS
  | []=>List.Pairwise.nil
  |x::l=>insB_sorted x _ (sortB_sorted l)
theorem leS_antisymm{x y:ByteArray}(h1:leS x y)(h2:leS y x):x=y:=by
  have h:x.data.toList=y.data.toList:=List.le_antisymm h1 h2
  have h3:x.data=y.data:=by rw [←Array.toList_inj];exact h
  cases x;cases y;simp_all
theorem sortB_of_perm{l l':List ByteArray}(h:List.Perm l l'):sortB l=sortB l':=
  ((sortB_perm l).trans (h.trans (sortB_perm l').symm)).eq_of_pairwise (le:=leS) (fun _ _ _ _ h1 h2=>leS_antisymm h1 h2) (sortB_sorted l) (sortB_sorted l')
theorem mergeSort_sortB(l:List ByteArray):(l.map (·.data.toList)).mergeSort (fun x y=>decide (x≤y))=(sortB l).map (·.data.toList):=by
  have hp:=List.mergeSort_perm (l.map (·.data.toList)) (fun x y=>decide (x≤y))
  have hs:=List.pairwise_mergeSort (le:=fun (x y:List UInt8)=>decide (x≤y)) (fun a b c h1 h2=>by simp only [decide_eq_true_eq] at*;exact List.le_trans h1 h2) (fun a b=>by simp only [Bool.or_eq_true,decide_eq_true_eq];exact List.le_total a b) (l.map (·.data.toList))
  refine (hp.trans ((sortB_perm l).map _).symm).eq_of_pairwise (le:=fun x y=>x≤y) (fun _ _ _ _ h1 h2=>List.le_antisymm h1 h2) (hs.imp fun h=>by simpa using h) ?_
  rw [List.pairwise_map]
  exact (sortB_sorted l).imp fun h=>h
theorem toBA(s:ByteArray):(⟨s.data.toList.toArray⟩:ByteArray)=s:=by cases s;simp
set_option maxHeartbeats 1000000 in
/-- A slice of strings of one's own, sorted. -/
theorem sort_str{w:World}{b:Nat}{T:Nat→Prop}{l:List ByteArray}{v:Value}(hO:OwnL StrE 9 1 w b T l v)(hl:l.length≤1000000):
    Calls Tryz.prog 69 #[v] w fun r w'=>r= .returned (.tuple #[])∧OwnL StrE 9 1 w' b T (sortB l) v∧∃fl:List Nat,(∀x∈fl,T x)∧Keeps fl w w':=by
  obtain ⟨xs,ho,ht,hx⟩:=hO
  have hxs0:∀{l:List ByteArray} {xs:List Value},Elems (StrE w (fun g=>T g∧v.ownBlock≠some g)) l xs→xs=l.map Value.string:=by
    intro l xs h
    induction h with
    |nil=>rfl
    |cons h1 _ ih=>rw [h1,ih];rfl
  have hxs:xs=l.map Value.string:=hxs0 hx
  clear hxs0
  have hE:∀(w':World) (S:Nat→Prop) (l:List ByteArray),Elems (StrE w' S) l (l.map Value.string):=by
    intro w' S l
    induction l with
    |nil=>exact .nil
    |cons a l ih=>exact .cons (c:= [.string a]) rfl ih
  rcases ho.2 with ⟨rfl,hn⟩|⟨g,cap,cur,rfl,hb,hg,h1,h2,h3,h4⟩
  · have:l= []:=List.length_eq_zero_iff.1 hn
    subst this
    refine (strings_nil w).mono fun r w' ⟨h5,h6⟩=>⟨h5, ?_,[],by simp,h6⟩
    exact OwnL.nil
  · have hcell:∀j (hj:j<l.length),cur[j]? =some (.string l[j]):=fun j hj=>by
      have:(cur.toList.take (l.length*1))[j]? =some (.string l[j]):=by rw [h4,hxs];simp [hj]
      rw [List.getElem?_take] at this
      split at this
      · simpa using this
      · cases this
    have hH:Holds encStr w g 0 (l.map (·.data.toList)).toArray:=fun j hj=>by
      have hj:j<l.length:=by simpa using hj
      refine ⟨?_,by rw [Nat.zero_add];exact frozen_of_heap hg j⟩
      rw [Nat.zero_add,cell_of_heap hg,hcell j hj]
      simp [encStr,hj,toBA]
    have hc:=strings_any g 0 cap (l.map (·.data.toList)) w hH (h_lt hg) (by simp;omega)
    rw [List.length_map] at hc
    refine hc.mono fun r w' ⟨h5,n,os,h6⟩=>⟨h5, ?_⟩
    rw [mergeSort_sortB] at h6
    have hlen:(sortB l).length=l.length:=(sortB_perm l).length_eq
    subst h6
    have hk:Keeps [g] w (grow (putRow encStr (Sort.ahead w n) g 0 ((sortB l).map (·.data.toList)).toArray) os):=by
      refine ⟨rfl,rfl,rfl,by simp,fun k hk hn=> ?_⟩
      rw [heap_grow_old _ _ (by simpa using hk)]
      simp only [putRow,mapBlock,heap_ahead,Array.getElem?_modify]
      rw [if_neg (by simp at hn;exact fun e=>hn e.symm)]
    have hg2:(grow (putRow encStr (Sort.ahead w n) g 0 ((sortB l).map (·.data.toList)).toArray) os).heap[g]? =some (.cells (putCells encStr 0 ((sortB l).map (·.data.toList)).toArray cur) 9 (0,0)):=by
      rw [heap_grow_old _ _ (by simpa using h_lt hg)]
      simp only [putRow,mapBlock,heap_ahead,Array.getElem?_modify,hg]
      simp [onCells]
    refine ⟨⟨(sortB l).map Value.string,⟨by simp,.inr ⟨g,cap,_,by rw [hlen],hb,hg2,by omega,h2,by simp [putCells];omega, ?_⟩⟩,ht,hE _ _ _⟩,[g],by simp;exact ht g rfl,hk⟩
    apply List.ext_getElem?
    intro j
    rw [List.getElem?_take]
    by_cases hj:j<l.length
    · rw [if_pos (by omega)]
      have hjs:j<(sortB l).length:=by omega
      have hj2:j<cur.size:=by omega
      simp [putCells,hj2,hjs,encStr,toBA]
    · rw [if_neg (by omega),List.getElem?_eq_none (by simp;omega)]
end Go.Proofs.YteafcepaolofpaaGreatDoor
end
