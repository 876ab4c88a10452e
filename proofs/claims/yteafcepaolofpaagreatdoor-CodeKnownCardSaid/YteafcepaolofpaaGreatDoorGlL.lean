/- Texts of this claim, joined: Chk, Kn5, KcC, GlL. -/
import Derived.Test.YteafcepaolofpaaGreatDoorInfo
import Derived.Test.YteafcepaolofpaaGreatDoorHedL
import Derived.Test.YteafcepaolofpaaGreatDoorArr
import Derived.Test.YteafcepaolofpaaGreatDoorHed
import Derived.Test.YteafcepaolofpaaGreatDoorNodJ
import Derived.Test.YteafcepaolofpaaGreatDoorCwS
import Derived.Test.YteafcepaolofpaaGreatDoorCwV
import Derived.Test.YteafcepaolofpaaGreatDoorNamA
import Derived.Test.YteafcepaolofpaaGreatDoorRows
import Derived.ProofKit
import Derived.OpenShut
import Derived.LaidMore
import Derived.Lay
import Derived.Test.YteafcepaolofpaaGreatDoorTokE
set_option maxRecDepth 100000
set_option maxHeartbeats 4000000
set_option linter.unusedSimpArgs false
set_option linter.unusedVariables false
set_option linter.unusedSectionVars false
section
/- Check, walked. Made by a program (info.py, walk.py). -/
namespace Go.Proofs.YteafcepaolofpaaGreatDoor
open Go.RowKit

theorem nAll_ok{fu:Nat}{g:ProgP}{st st1:NS}(h:nAll fu g st=some st1):(st.e≠0∧st1=st)∨(st.e=0∧∃s,allR (nodeN g fu) g.rules st=some s∧allF (nodeN g fu) 0 g.funcs s=some st1):=by
  unfold nAll at h
  by_cases h0:st.e=0
  · rw [if_pos h0] at h
    simp only [Option.bind_eq_bind,Option.bind_eq_some_iff] at h
    exact .inr ⟨h0,h⟩
  · rw [if_neg h0] at h
    exact .inl ⟨h0,(Option.some.inj h).symm⟩
theorem nArr_ok{st st1:NS}(h:nArr st=some st1):(st.e≠0∧st1=st)∨(st.e=0∧∃k,kindsF st=some k∧arraysF k st.uses st=some st1):=by
  unfold nArr at h
  by_cases h0:st.e=0
  · rw [if_pos h0] at h
    simp only [Option.bind_eq_bind,Option.bind_eq_some_iff] at h
    exact .inr ⟨h0,h⟩
  · rw [if_neg h0] at h
    exact .inl ⟨h0,(Option.some.inj h).symm⟩
theorem arraysF_keep{k:Kinds}:∀{l:List Use} {st st1:NS},arraysF k l st=some st1→st1.uses=st.uses∧st1.seen=st.seen
  | [],st,st1,h=>by simp only [arraysF,Option.some.injEq] at h;rw [h];exact ⟨rfl,rfl⟩
  | u ::l,st,st1,h=>by
    unfold arraysF at h
    simp only [Option.bind_eq_bind,Option.bind_eq_some_iff] at h
    obtain ⟨b,_,h⟩:=h
    have:=arraysF_keep h
    cases b with
    | true=>
      rw [if_pos rfl] at this
      unfold faultF at this
      split at this<;>exact this
    |false=>rw [if_neg (by simp)] at this;exact this

theorem check_any{fu:Nat}{g:ProgP}{t:Told}{w:World}{S:Nat→Prop}{v:Value}(hv:ProgV w S g v)(hx:nCheck fu g=some t):
    Calls Tryz.prog 14 #[v] w fun r w'=>∃iv,r= .returned (.tuple #[iv,.complex .f64 t.re t.im,.int .i64 t.e])∧InfoV w' (fun g=>w.heap.size≤g) t.info iv∧Keeps [] w w':=by
  obtain ⟨ra,rc,fa,fc,rfl,hr,hf⟩:=hv
  unfold nCheck at hx
  by_cases hsb:smallB g=false
  · rw [if_pos hsb] at hx;cases hx
  rw [if_neg hsb] at hx
  simp only [Option.bind_eq_bind,Option.bind_eq_some_iff] at hx
  obtain ⟨st1,hall,hx⟩:=hx
  by_cases hbig:400000<st1.uses.length∨400000<st1.seen.length
  · rw [if_pos hbig] at hx;cases hx
  rw [if_neg hbig] at hx
  simp only [Option.bind_eq_some_iff] at hx
  obtain ⟨st2,harr,hrest⟩:=hx
  have hsb2:smallB g=true:=by cases h:smallB g with|true=>rfl|false=>exact absurd h hsb
  unfold smallB at hsb2
  simp only [Bool.and_eq_true,decide_eq_true_eq,List.all_eq_true] at hsb2
  obtain ⟨⟨⟨hs1,hs2⟩,hs3⟩,hs4⟩:=hsb2
  have HPR:=Lib.hid (hr.to ruleL (T:=fun _=>True) fun _ _=>trivial);have HPF:=Lib.hid (hf.to funcL (T:=fun _=>True) fun _ _=>trivial)
  clear hr hf hsb
  go_enter Tryz.func14,Tryz.ntmps14
  go_upto_region 1 with fail
  refine wp_at (fun W=>Keeps [] w W∧W.heap[w.heap.size]? =some (.cells #[.slice ra g.rules.length rc,.slice fa g.funcs.length fc] 32 (0,0))∧W.heap[w.heap.size+1]? =some (.cells #[.slice none 0 0,.slice none 0 0,.slice none 0 0] 53 (0,0))) ⟨(by with_reducible repeat (first|exact k0 _ _|refine kA ?_ _|refine kD ?_|refine kS ?_ (by simp)|refine kM ?_ (by simp))),(by simp only [hS,hA,hD,hM,World.size_alloc,World.size_setCell,World.size_drew,size_mset,Nat.add_right_cancel_iff,Nat.left_eq_add,Nat.add_eq_left,Nat.reduceEqDiff,Nat.add_assoc,Nat.reduceAdd,Nat.one_ne_zero,Nat.zero_ne_one,reduceIte,Option.map_some,Obj.put]<;>rfl),(by simp only [hS,hA,hD,hM,World.size_alloc,World.size_setCell,World.size_drew,size_mset,Nat.add_right_cancel_iff,Nat.left_eq_add,Nat.add_eq_left,Nat.reduceEqDiff,Nat.add_assoc,Nat.reduceAdd,Nat.one_ne_zero,Nat.zero_ne_one,reduceIte,Option.map_some,Obj.put]<;>rfl)⟩ ?_
  rintro w1 ⟨k1,cP,cR⟩
  obtain ⟨RR,hRR⟩:∃x,x=w.heap.size+1:=⟨_,rfl⟩
  rw [←hRR] at cR⊢
  have o_R:w.heap.size≤RR:=by omega
  have HK1:=Lib.hid k1;have HRR:=Lib.hid cR
  have HPR1:=Lib.hid (HPR.out.kp ruleL k1 (by simp));have HPF1:=Lib.hid (HPF.out.kp funcL k1 (by simp))
  obtain ⟨l_P,xP_0,xP_1,yP_0,yP_1⟩:=cf2 cP
  have hm65:∀W:World,(Instr.makeMap 87 none).run Tryz.prog W= .ok (.map (some W.heap.size)) (W.alloc (.map #[] 0)):=fun _=>rfl
  have hm66:∀W:World,(Instr.makeMap 88 none).run Tryz.prog W= .ok (.map (some W.heap.size)) (W.alloc (.map #[] 0)):=fun _=>rfl
  have hm67:∀W:World,(Instr.makeMap 89 none).run Tryz.prog W= .ok (.map (some W.heap.size)) (W.alloc (.map #[] 0)):=fun _=>rfl
  clear k1 cP cR HPR HPF
  go_wp2_with fail
  refine calls_at (fun W=>Keeps [] w1 W∧W.heap[w1.heap.size]? =some (.map #[] 0)∧W.heap[w1.heap.size+1]? =some (.map #[] 0)∧W.heap[w1.heap.size+2]? =some (.map #[] 0)∧W.heap[w1.heap.size+3]? =some (.cells #[.slice ra g.rules.length rc,.slice fa g.funcs.length fc,.map (some w1.heap.size),.int .i64 0,.int .i64 0,.int .i64 0,.slice none 0 0,.map (some (w1.heap.size+1)),.map (some (w1.heap.size+2)),.complex .f64 0 0,.int .i64 0] 92 (0,0))) ⟨(by with_reducible repeat (first|exact k0 _ _|refine kA ?_ _|refine kD ?_|refine kS ?_ (by simp)|refine kM ?_ (by simp))),(by simp only [hS,hA,hD,hM,World.size_alloc,World.size_setCell,World.size_drew,size_mset,Nat.add_right_cancel_iff,Nat.left_eq_add,Nat.add_eq_left,Nat.reduceEqDiff,Nat.add_assoc,Nat.reduceAdd,Nat.one_ne_zero,Nat.zero_ne_one,reduceIte,Option.map_some,Obj.put]<;>rfl),(by simp only [hS,hA,hD,hM,World.size_alloc,World.size_setCell,World.size_drew,size_mset,Nat.add_right_cancel_iff,Nat.left_eq_add,Nat.add_eq_left,Nat.reduceEqDiff,Nat.add_assoc,Nat.reduceAdd,Nat.one_ne_zero,Nat.zero_ne_one,reduceIte,Option.map_some,Obj.put]<;>rfl),(by simp only [hS,hA,hD,hM,World.size_alloc,World.size_setCell,World.size_drew,size_mset,Nat.add_right_cancel_iff,Nat.left_eq_add,Nat.add_eq_left,Nat.reduceEqDiff,Nat.add_assoc,Nat.reduceAdd,Nat.one_ne_zero,Nat.zero_ne_one,reduceIte,Option.map_some,Obj.put]<;>rfl),(by simp only [hS,hA,hD,hM,World.size_alloc,World.size_setCell,World.size_drew,size_mset,Nat.add_right_cancel_iff,Nat.left_eq_add,Nat.add_eq_left,Nat.reduceEqDiff,Nat.add_assoc,Nat.reduceAdd,Nat.one_ne_zero,Nat.zero_ne_one,reduceIte,Option.map_some,Obj.put]<;>rfl)⟩ ?_
  rintro w2 ⟨k2,rmf,rms,rmn,rc2⟩
  clear l_P xP_0 xP_1 yP_0 yP_1 hm65 hm66 hm67
  obtain ⟨K,hKd⟩:∃K:CKey,K=⟨g,w1,w1.heap.size+3,w1.heap.size,w1.heap.size+1,w1.heap.size+2,ra,rc,fa,fc⟩:=⟨_,rfl⟩
  have eg:K.g=g:=by rw [hKd]
  have e0:K.w0=w1:=by rw [hKd]
  have ec:w1.heap.size+3=K.c:=by rw [hKd]
  have hK:CFix K:=by
    subst hKd
    exact ⟨HPR1.out,HPF1.out,Nat.le_add_right _ _,Nat.le_refl _,Nat.le_add_right _ _,Nat.le_add_right _ _,by simp,by show g.funcs.length≤_;omega,hs2,fun f hf=>Nat.le_trans (hs3 f hf) (by omega),hs4⟩
  have hrow:w2.heap[K.c]? =some (ckC K ns0 none 0):=by subst hKd;exact rc2
  have hrmf:w2.heap[K.mf]? =some (.map #[] 0):=by subst hKd;exact rmf
  have hrms:w2.heap[K.ms]? =some (.map #[] 0):=by subst hKd;exact rms
  have hrmn:w2.heap[K.mn]? =some (.map #[] 0):=by subst hKd;exact rmn
  have hk01:Keeps [] K.w0 w2:=by rw [e0];exact k2
  have HKR:Hid (∀{W W':World},Keeps [] K.w0 W→Keeps [RR] W W'→Keeps [] w W'):=Lib.hid fun h1 h2=>HK1.out.trans (fp':= [RR]) ((e0▸h1.weaken (fp':= [RR]) (by simp)).trans h2 (fun _ h=> .inl h)) (by simpa using o_R)
  have HRR0:Hid (K.w0.heap[RR]? =some (.cells #[.slice none 0 0,.slice none 0 0,.slice none 0 0] 53 (0,0))):=Lib.hid (by rw [e0];exact HRR.out)
  have hs5:∀f∈K.g.funcs,f.params.length≤400000:=by rw [eg];exact hs3
  have hs6:K.g.funcs.length≤400000:=by rw [eg];exact hs1
  have HS:=Lib.hid (And.intro hs5 hs6)
  rw [ec]
  rw [←eg] at hall hrest
  clear hKd e0 ec k2 rc2 rmf rms rmn HPR1 HPF1 HRR HK1 hs1 hs2 hs3 hs4 hs5 hs6 eg hRR
  have HAL:=Lib.hid hall;have HAR:=Lib.hid harr;have HRS:=Lib.hid hrest
  obtain ⟨st0,hst0⟩:∃x,headsA K.g 0 K.g.funcs ns0=x:=⟨_,rfl⟩
  rw [hst0] at HAL
  clear hall harr hrest
  refine (heads_any hK hk01 hrow hrmf hrms hrmn hst0).mono ?_
  rintro r w3 ⟨T3,ua3,uc3,rfl,hc⟩
  have HC3:=Lib.hid hc
  clear hk01 hrow hrmf hrms hrmn hc hst0
  rcases nAll_ok HAL.out with ⟨h0,rfl⟩|⟨h0,s1,hr1,hf1⟩
  · have d0:(st1.e==0)=false:=beq_false_of_ne h0
    have d1:(st1.e !=0)=true:=by simp [h0]
    rcases nArr_ok HAR.out with ⟨-,rfl⟩|⟨h1,-⟩
    rotate_left
    · exact absurd h1 h0
    obtain ⟨l_c,xc_0,xc_1,xc_2,xc_3,xc_4,xc_5,xc_6,xc_7,xc_8,xc_9,xc_10,yc_0,yc_1,yc_2,yc_3,yc_4,yc_5,yc_6,yc_7,yc_8,yc_9,yc_10⟩:=cf11 HC3.out.row
    go_upto_region 8 with fail
    have rR:w3.heap[RR]? =some (.cells #[.slice none 0 0,.slice none 0 0,.slice none 0 0] 53 (0,0)):=HC3.out.keep.at HRR0.out (by simp)
    obtain ⟨l_R,xR_0,xR_1,xR_2,yR_0,yR_1,yR_2⟩:=cf3 rR
    go_cut [3,4] (fun s3 s4 W=>s3= .complex .f64 st2.re st2.im∧s4= .int .i64 st2.e∧Keeps [RR] w3 W∧W.heap[RR]? =some (.cells #[.slice none 0 0,.slice none 0 0,.slice none 0 0] 53 (0,0)))
    case first=>
      go_region
      all_goals
        go_wp2_with fail
        go_meet
        case rel=>exact ⟨rfl,rfl,(by with_reducible repeat (first|exact k0 _ _|refine kA ?_ _|refine kD ?_|refine kS ?_ (by simp)|refine kM ?_ (by simp))),(by simp only [hS,hA,hD,hM,World.size_alloc,World.size_setCell,World.size_drew,size_mset,Nat.add_right_cancel_iff,Nat.left_eq_add,Nat.add_eq_left,Nat.reduceEqDiff,Nat.add_assoc,Nat.reduceAdd,Nat.one_ne_zero,Nat.zero_ne_one,reduceIte,Option.map_some,Obj.put,rR]<;>rfl)⟩
    case rest=>
      obtain ⟨rfl,rfl,k8,c8⟩:=hcut
      generalize wc=w8 at*
      have h8:=Lib.hid c8;have hk8:=Lib.hid k8
      have HCX:=HC3
      clear l_c xc_0 yc_0 xc_1 yc_1 xc_2 yc_2 xc_3 yc_3 xc_4 yc_4 xc_5 yc_5 xc_6 yc_6 xc_7 yc_7 xc_8 yc_8 xc_9 yc_9 xc_10 yc_10 HC3 rR l_R xR_0 xR_1 xR_2 yR_0 yR_1 yR_2 c8 k8
      go_wp2_with fail
      refine ret_at (v:= .tuple #[.agg #[.slice none 0 0,.slice none 0 0,.slice none 0 0],.complex .f64 st2.re st2.im,.int .i64 st2.e]) (fun W=>Keeps [] w8 W) (by with_reducible repeat (first|exact k0 _ _|refine kA ?_ _|refine kD ?_|refine kS ?_ (by simp)|refine kM ?_ (by simp))) (fun W hW=> ?_) rfl (fun W hW=> ?_)
      · have hW:Keeps [] w8 W:=hW
        have rq:=hW.at h8.out (by simp)
        have q0:=cell_of_heap rq 0
        have q1:=cell_of_heap rq 1
        have q2:=cell_of_heap rq 2
        simp at q0 q1 q2
        simp [results,Tryz.results14,go_sem,q0,q1,q2]
      · have hW:Keeps [] w8 W:=hW
        have hrest:=HRS.out
        rw [nRest,if_pos h0] at hrest
        simp only [Option.some.injEq] at hrest
        subst hrest
        exact ⟨_,rfl,⟨none,0,none,0,none,0,rfl,SliceR.nil,SliceR.nil,SliceR.nil⟩,HKR.out HCX.out.keep (hk8.out.trans hW (by simp))⟩
  · have HR1:=Lib.hid hr1;have HF1:=Lib.hid hf1
    clear hr1 hf1
    have d0:(st0.e==0)=true:=by simp [h0]
    obtain ⟨l_c,xc_0,xc_1,xc_2,xc_3,xc_4,xc_5,xc_6,xc_7,xc_8,xc_9,xc_10,yc_0,yc_1,yc_2,yc_3,yc_4,yc_5,yc_6,yc_7,yc_8,yc_9,yc_10⟩:=cf11 HC3.out.row
    go_wp2_with fail
    clear l_c xc_0 yc_0 xc_1 yc_1 xc_2 yc_2 xc_3 yc_3 xc_4 yc_4 xc_5 yc_5 xc_6 yc_6 xc_7 yc_7 xc_8 yc_8 xc_9 yc_9 xc_10 yc_10
    refine (all_any hK HC3.out (node_any hK fu) HR1.out HF1.out).mono ?_
    rintro r w4 ⟨T4,ua4,uc4,rfl,hc,-⟩
    have HC4:=Lib.hid hc
    clear hc HC3 HR1 HF1 d0 h0
    rcases nArr_ok HAR.out with ⟨h0,rfl⟩|⟨h0,k1,hkf,har⟩
    · have d0:(st2.e==0)=false:=beq_false_of_ne h0
      have d1:(st2.e !=0)=true:=by simp [h0]
      obtain ⟨l_c,xc_0,xc_1,xc_2,xc_3,xc_4,xc_5,xc_6,xc_7,xc_8,xc_9,xc_10,yc_0,yc_1,yc_2,yc_3,yc_4,yc_5,yc_6,yc_7,yc_8,yc_9,yc_10⟩:=cf11 HC4.out.row
      go_upto_region 8 with fail
      have rR:w4.heap[RR]? =some (.cells #[.slice none 0 0,.slice none 0 0,.slice none 0 0] 53 (0,0)):=HC4.out.keep.at HRR0.out (by simp)
      obtain ⟨l_R,xR_0,xR_1,xR_2,yR_0,yR_1,yR_2⟩:=cf3 rR
      go_cut [3,4] (fun s3 s4 W=>s3= .complex .f64 st2.re st2.im∧s4= .int .i64 st2.e∧Keeps [RR] w4 W∧W.heap[RR]? =some (.cells #[.slice none 0 0,.slice none 0 0,.slice none 0 0] 53 (0,0)))
      case first=>
        go_region
        all_goals
          go_wp2_with fail
          go_meet
          case rel=>exact ⟨rfl,rfl,(by with_reducible repeat (first|exact k0 _ _|refine kA ?_ _|refine kD ?_|refine kS ?_ (by simp)|refine kM ?_ (by simp))),(by simp only [hS,hA,hD,hM,World.size_alloc,World.size_setCell,World.size_drew,size_mset,Nat.add_right_cancel_iff,Nat.left_eq_add,Nat.add_eq_left,Nat.reduceEqDiff,Nat.add_assoc,Nat.reduceAdd,Nat.one_ne_zero,Nat.zero_ne_one,reduceIte,Option.map_some,Obj.put,rR]<;>rfl)⟩
      case rest=>
        obtain ⟨rfl,rfl,k8,c8⟩:=hcut
        generalize wc=w8 at*
        have h8:=Lib.hid c8;have hk8:=Lib.hid k8
        have HCX:=HC4
        clear l_c xc_0 yc_0 xc_1 yc_1 xc_2 yc_2 xc_3 yc_3 xc_4 yc_4 xc_5 yc_5 xc_6 yc_6 xc_7 yc_7 xc_8 yc_8 xc_9 yc_9 xc_10 yc_10 HC4 rR l_R xR_0 xR_1 xR_2 yR_0 yR_1 yR_2 c8 k8
        go_wp2_with fail
        refine ret_at (v:= .tuple #[.agg #[.slice none 0 0,.slice none 0 0,.slice none 0 0],.complex .f64 st2.re st2.im,.int .i64 st2.e]) (fun W=>Keeps [] w8 W) (by with_reducible repeat (first|exact k0 _ _|refine kA ?_ _|refine kD ?_|refine kS ?_ (by simp)|refine kM ?_ (by simp))) (fun W hW=> ?_) rfl (fun W hW=> ?_)
        · have hW:Keeps [] w8 W:=hW
          have rq:=hW.at h8.out (by simp)
          have q0:=cell_of_heap rq 0
          have q1:=cell_of_heap rq 1
          have q2:=cell_of_heap rq 2
          simp at q0 q1 q2
          simp [results,Tryz.results14,go_sem,q0,q1,q2]
        · have hW:Keeps [] w8 W:=hW
          have hrest:=HRS.out
          rw [nRest,if_pos h0] at hrest
          simp only [Option.some.injEq] at hrest
          subst hrest
          exact ⟨_,rfl,⟨none,0,none,0,none,0,rfl,SliceR.nil,SliceR.nil,SliceR.nil⟩,HKR.out HCX.out.keep (hk8.out.trans hW (by simp))⟩
    · have d0:(st1.e==0)=true:=by simp [h0]
      have HKF:=Lib.hid hkf;have HAF:=Lib.hid har
      obtain ⟨hu2,hn2⟩:=arraysF_keep har
      have hul:st1.uses.length≤400000:=by omega
      have hnl:st1.seen.length≤400000:=by omega
      clear hkf har hbig h0
      obtain ⟨l_c,xc_0,xc_1,xc_2,xc_3,xc_4,xc_5,xc_6,xc_7,xc_8,xc_9,xc_10,yc_0,yc_1,yc_2,yc_3,yc_4,yc_5,yc_6,yc_7,yc_8,yc_9,yc_10⟩:=cf11 HC4.out.row
      go_wp2_with fail
      clear l_c xc_0 yc_0 xc_1 yc_1 xc_2 yc_2 xc_3 yc_3 xc_4 yc_4 xc_5 yc_5 xc_6 yc_6 xc_7 yc_7 xc_8 yc_8 xc_9 yc_9 xc_10 yc_10
      refine (arrays_any hK HC4.out HKF.out (by omega) HAF.out).mono ?_
      rintro r w5 ⟨T5,ua5,uc5,rfl,hc,-⟩
      have HC5:=Lib.hid hc
      clear hc HC4 HKF HAF d0
      by_cases h0:st2.e=0
      · have d1:(st2.e !=0)=false:=by simp [h0]
        have hrest:=HRS.out
        rw [nRest,if_neg (by simp [h0])] at hrest
        simp only [Option.bind_eq_bind,Option.bind_eq_some_iff,Option.some.injEq] at hrest
        obtain ⟨k2,hkf,x,hxi,rfl⟩:=hrest
        have HKF:=Lib.hid hkf;have HXI:=Lib.hid hxi
        clear hkf hxi h0 HRS
        obtain ⟨l_c,xc_0,xc_1,xc_2,xc_3,xc_4,xc_5,xc_6,xc_7,xc_8,xc_9,xc_10,yc_0,yc_1,yc_2,yc_3,yc_4,yc_5,yc_6,yc_7,yc_8,yc_9,yc_10⟩:=cf11 HC5.out.row
        go_wp2_with fail
        clear l_c xc_0 yc_0 xc_1 yc_1 xc_2 yc_2 xc_3 yc_3 xc_4 yc_4 xc_5 yc_5 xc_6 yc_6 xc_7 yc_7 xc_8 yc_8 xc_9 yc_9 xc_10 yc_10
        refine (info_any hK HC5.out HKF.out (by rw [hu2];omega) (by rw [hn2];exact hnl) HS.out.2 HS.out.1 HXI.out).mono ?_
        rintro r w6 ⟨v,rfl,hiv,hk⟩
        obtain ⟨sa,sc,aa,ac,pa,pc,rfl,hi1,hi2,hi3⟩:=hiv
        have rR:w6.heap[RR]? =some (.cells #[.slice none 0 0,.slice none 0 0,.slice none 0 0] 53 (0,0)):=hk.at (HC5.out.keep.at HRR0.out (by simp)) (by simp)
        obtain ⟨l_R,xR_0,xR_1,xR_2,yR_0,yR_1,yR_2⟩:=cf3 rR
        have HI1:=Lib.hid hi1;have HI2:=Lib.hid hi2;have HI3:=Lib.hid hi3;have HK6:=Lib.hid (HC5.out.keep.trans hk (by simp))
        have hR5:RR<w5.heap.size:=h_lt (HC5.out.keep.at HRR0.out (by simp))
        have hw5:w.heap.size≤w5.heap.size:=Nat.le_trans o_R (Nat.le_of_lt hR5)
        clear hi1 hi2 hi3 hk HC5
        obtain ⟨n1,hn1⟩:∃n,n=x.scalars.length:=⟨_,rfl⟩
        obtain ⟨n2,hn3⟩:∃n,n=x.arrays.length:=⟨_,rfl⟩
        obtain ⟨n3,hn4⟩:∃n,n=x.params.length:=⟨_,rfl⟩
        rw [←hn1,←hn3,←hn4]
        have HN:=Lib.hid (And.intro hn1 (And.intro hn3 hn4))
        clear hn1 hn3 hn4
        go_wp2_with fail
        refine ret_at (v:= .tuple #[.agg #[.slice sa n1 sc,.slice aa n2 ac,.slice pa n3 pc],.complex .f64 0 0,.int .i64 0]) (fun W=>Keeps [RR] w6 W∧W.heap[RR]? =some (.cells #[.slice sa n1 sc,.slice aa n2 ac,.slice pa n3 pc] 53 (0,0))) ⟨(by with_reducible repeat (first|exact k0 _ _|refine kA ?_ _|refine kD ?_|refine kS ?_ (by simp)|refine kM ?_ (by simp))),(by simp only [hS,hA,hD,hM,World.size_alloc,World.size_setCell,World.size_drew,size_mset,Nat.add_right_cancel_iff,Nat.left_eq_add,Nat.add_eq_left,Nat.reduceEqDiff,Nat.add_assoc,Nat.reduceAdd,Nat.one_ne_zero,Nat.zero_ne_one,reduceIte,Option.map_some,Obj.put,rR]<;>rfl)⟩ (fun W hW=> ?_) rfl (fun W hW=> ?_)
        · obtain ⟨hW,rq⟩:=hW
          have q0:=cell_of_heap rq 0
          have q1:=cell_of_heap rq 1
          have q2:=cell_of_heap rq 2
          simp at q0 q1 q2
          simp [results,Tryz.results14,go_sem,q0,q1,q2]
        · obtain ⟨hW,-⟩:=hW
          obtain ⟨hn1,hn3,hn4⟩:=HN.out
          subst hn1 hn3 hn4
          have hd:∀y∈ [RR],¬w5.heap.size≤y:=fun y hy hc=>by simp at hy;subst hy;omega
          exact ⟨_,rfl,⟨sa,sc,aa,ac,pa,pc,rfl,(HI1.out.kp strL hW hd).to strL fun y hy=>Nat.le_trans hw5 hy,(HI2.out.kp strL hW hd).to strL fun y hy=>Nat.le_trans hw5 hy,(HI3.out.kp flagsL hW hd).to flagsL fun y hy=>Nat.le_trans hw5 hy⟩,HKR.out HK6.out hW⟩
      · have d1:(st2.e !=0)=true:=by simp [h0]
        obtain ⟨l_c,xc_0,xc_1,xc_2,xc_3,xc_4,xc_5,xc_6,xc_7,xc_8,xc_9,xc_10,yc_0,yc_1,yc_2,yc_3,yc_4,yc_5,yc_6,yc_7,yc_8,yc_9,yc_10⟩:=cf11 HC5.out.row
        go_upto_region 8 with fail
        have rR:w5.heap[RR]? =some (.cells #[.slice none 0 0,.slice none 0 0,.slice none 0 0] 53 (0,0)):=HC5.out.keep.at HRR0.out (by simp)
        obtain ⟨l_R,xR_0,xR_1,xR_2,yR_0,yR_1,yR_2⟩:=cf3 rR
        go_cut [3,4] (fun s3 s4 W=>s3= .complex .f64 st2.re st2.im∧s4= .int .i64 st2.e∧Keeps [RR] w5 W∧W.heap[RR]? =some (.cells #[.slice none 0 0,.slice none 0 0,.slice none 0 0] 53 (0,0)))
        case first=>
          go_region
          all_goals
            go_wp2_with fail
            go_meet
            case rel=>exact ⟨rfl,rfl,(by with_reducible repeat (first|exact k0 _ _|refine kA ?_ _|refine kD ?_|refine kS ?_ (by simp)|refine kM ?_ (by simp))),(by simp only [hS,hA,hD,hM,World.size_alloc,World.size_setCell,World.size_drew,size_mset,Nat.add_right_cancel_iff,Nat.left_eq_add,Nat.add_eq_left,Nat.reduceEqDiff,Nat.add_assoc,Nat.reduceAdd,Nat.one_ne_zero,Nat.zero_ne_one,reduceIte,Option.map_some,Obj.put,rR]<;>rfl)⟩
        case rest=>
          obtain ⟨rfl,rfl,k8,c8⟩:=hcut
          generalize wc=w8 at*
          have h8:=Lib.hid c8;have hk8:=Lib.hid k8
          have HCX:=HC5
          clear l_c xc_0 yc_0 xc_1 yc_1 xc_2 yc_2 xc_3 yc_3 xc_4 yc_4 xc_5 yc_5 xc_6 yc_6 xc_7 yc_7 xc_8 yc_8 xc_9 yc_9 xc_10 yc_10 HC5 rR l_R xR_0 xR_1 xR_2 yR_0 yR_1 yR_2 c8 k8
          go_wp2_with fail
          refine ret_at (v:= .tuple #[.agg #[.slice none 0 0,.slice none 0 0,.slice none 0 0],.complex .f64 st2.re st2.im,.int .i64 st2.e]) (fun W=>Keeps [] w8 W) (by with_reducible repeat (first|exact k0 _ _|refine kA ?_ _|refine kD ?_|refine kS ?_ (by simp)|refine kM ?_ (by simp))) (fun W hW=> ?_) rfl (fun W hW=> ?_)
          · have hW:Keeps [] w8 W:=hW
            have rq:=hW.at h8.out (by simp)
            have q0:=cell_of_heap rq 0
            have q1:=cell_of_heap rq 1
            have q2:=cell_of_heap rq 2
            simp at q0 q1 q2
            simp [results,Tryz.results14,go_sem,q0,q1,q2]
          · have hW:Keeps [] w8 W:=hW
            have hrest:=HRS.out
            rw [nRest,if_pos h0] at hrest
            simp only [Option.some.injEq] at hrest
            subst hrest
            exact ⟨_,rfl,⟨none,0,none,0,none,0,rfl,SliceR.nil,SliceR.nil,SliceR.nil⟩,HKR.out HCX.out.keep (hk8.out.trans hW (by simp))⟩
end Go.Proofs.YteafcepaolofpaaGreatDoor
end
section
/- The law CodeKnown: parsed, known, CodeKnown. -/
namespace Go.Proofs.YteafcepaolofpaaGreatDoor
open Go.RowKit
def exF(E:CEnv):ERec:=exprK E 12
def stF(E:CEnv):ERec:=stmtK (exprK E 12) 12
def runK(s:ByteArray):Option (ProgP×Told×Option CodeP):=do
  let g ←parseF s
  let t ←nCheck 60 g
  some (g,t,codeG exF stF g t.info)
def chkA(x:Option (ProgP×Told×Option CodeP)):Bool:=match x with
  |some (_,⟨_,0,0,0⟩,some ⟨[⟨_,_,[],[x0,x1,x2,x3],_⟩],_,1,0⟩)=>x0.op==1&&x0.n==one64&&x1.op==12&&x2.op==6&&same x2.s (bs [43])&&x3.op==29
  |_=>false
def chkB(x:Option (ProgP×Told×Option CodeP)):Bool:=match x with
  |some (_,⟨_,0,0,0⟩,some ⟨[⟨_,_,[[_,_,_,_]],[_,_,_],_⟩],_,_,_⟩)=>true
  |_=>false
def chkC(x:Option (ProgP×Told×Option CodeP)):Bool:=match x with
  |some (_,⟨_,re,im,32⟩,_)=>re==4607182418800017408&&im==4621256167635550208
  |_=>false
abbrev tA:ByteArray:=⟨#[123,32,110,32,43,61,32,36,49,32,125]⟩
abbrev tB:ByteArray:=⟨#[47,97,47,32,123,32,112,114,105,110,116,32,125]⟩
abbrev tC:ByteArray:=⟨#[66,69,71,73,78,32,123,32,110,101,120,116,32,125]⟩
theorem evA:chkA (runK tA)=true:=by kernel_rfl
theorem evB:chkB (runK tB)=true:=by kernel_rfl
theorem evC:chkC (runK tC)=true:=by kernel_rfl
theorem runK_of{s:ByteArray}{g:ProgP}{t:Told}{c:Option CodeP}(h:runK s=some (g,t,c)):parseF s=some g∧nCheck 60 g=some t∧codeG exF stF g t.info=c:=by
  unfold runK at h
  simp only [Option.bind_eq_bind,Option.bind_eq_some_iff,Option.some.injEq,Prod.mk.injEq] at h
  obtain ⟨g',h1,t',h2,rfl,rfl,h3⟩:=h
  exact ⟨h1,h2,h3⟩
theorem toldA:∃(g:ProgP) (t:InfoP) (c:CodeP) (k n:Int) (x0 x1 x2 x3:Ins) (ps:List Bool),(parseF tA=some g∧nCheck 60 g=some ⟨t,0,0,0⟩∧codeG exF stF g t=some c)∧c.rules= [⟨k,n,[],[x0,x1,x2,x3],ps⟩]∧c.scalars=1∧c.arrays=0∧x0.op=1∧x0.n=one64∧x1.op=12∧x2.op=6∧x2.s=bs [43]∧x3.op=29:=by
  have h:=evA
  generalize hx:runK tA=x at h
  unfold chkA at h
  split at h
  · simp only [Bool.and_eq_true,beq_iff_eq] at h
    obtain ⟨⟨⟨⟨⟨h0,h1⟩,h2⟩,h3⟩,h4⟩,h5⟩:=h
    exact ⟨_,_,_,_,_,_,_,_,_,_,runK_of hx,rfl,rfl,rfl,h0,h1,h2,h3,same_iff.1 h4,h5⟩
  · cases h
theorem toldB:∃(g:ProgP) (t:InfoP) (c:CodeP) (k n:Int) (q:Out) (y:Out) (ps:List Bool),(parseF tB=some g∧nCheck 60 g=some ⟨t,0,0,0⟩∧codeG exF stF g t=some c)∧c.rules= [⟨k,n,[q],y,ps⟩]∧q.length=4∧y.length=3:=by
  have h:=evB
  generalize hx:runK tB=x at h
  unfold chkB at h
  split at h
  · exact ⟨_,_,_,_,_,_,_,_,runK_of hx,rfl,rfl,rfl⟩
  · cases h
theorem toldC:∃(g:ProgP) (t:InfoP),parseF tC=some g∧nCheck 60 g=some ⟨t,4607182418800017408,4621256167635550208,32⟩:=by
  have h:=evC
  generalize hx:runK tC=x at h
  unfold chkC at h
  split at h
  · simp only [Bool.and_eq_true,beq_iff_eq] at h
    obtain ⟨rfl,rfl⟩:=h
    exact ⟨_,_,(runK_of hx).1,(runK_of hx).2.1⟩
  · cases h
theorem comp5{g:ProgP}{t:InfoP}{c:CodeP}(hx:nCheck 60 g=some ⟨t,0,0,0⟩)(hc:codeG exF stF g t=some c){w:World}{v:Value}(hv:ProgV w (fun _=>True) g v):
    Calls Tryz.prog 6 #[v] w fun r w'=>∃cv,r= .returned (.tuple #[cv,.complex .f64 0 0,.int .i64 0])∧CodeV w' c cv∧Keeps [] w w':=
  wcompile_ok hv (fun _ _ _ h=>check_any h hx) hc (fun K hK e=>e▸exK hK 12) fun K hK e n o' hn v hv W hcw=>(stK hK (exK hK 12) 12 n [] o' (e▸hn) v hv _ _ _ W hcw).mono fun _ _ ⟨h1,⟨oa,oc,h2⟩,_⟩=>⟨h1,oa,oc,_,h2⟩
theorem All2.one{α β:Type}{R:α→β→Prop}{l:List α}{b:β}(h:All2 R l [b]):∃a,l= [a]∧R a b:=by
  cases h with
  | cons h t=>cases t with
    |nil=>exact ⟨_,rfl,h⟩
theorem factsR{W:World}{b:Nat}{a:Option Addr}{cap:Nat}{p:PartP}(h:PartsV W b a cap [p]):∃gR t,a=some ⟨gR,0,none⟩∧gR<W.heap.size∧W.cell? ⟨gR,2,none⟩=some (.slice t.pats.1 t.pats.2.1 t.pats.2.2)∧W.cell? ⟨gR,3,none⟩=some (.slice t.body.1 t.body.2.1 t.body.2.2)∧PartV W t p:=by
  obtain ⟨ts,h1,h2⟩:=h
  obtain ⟨t,rfl,h3⟩:=h2.one
  obtain ⟨g,e,hg,-,hc⟩:=h1.get ptL (i:=0) (by simp)
  exact ⟨g,t,e,hg,by simpa using hc 2 _ rfl,by simpa using hc 3 _ rfl,h3⟩
theorem factsO{W:World}{p:SlT}{o:Out}(h:OutV W p o)(h0:0<o.length):p.2.1=o.length∧∃g,p.1=some ⟨g,0,none⟩∧g<W.heap.size∧∀i (hi:i<o.length) j u,(inC o[i])[j]? =some u→W.cell? ⟨g,i*5+j,none⟩=some u:=by
  obtain ⟨h1,b,h2⟩:=h
  obtain ⟨g,e,hg,-,-⟩:=h2.get inL h0
  refine ⟨h1,g,e,hg,fun i hi j u hj=> ?_⟩
  obtain ⟨g',e',-,-,hc⟩:=h2.get inL hi
  rw [e] at e'
  obtain rfl:g=g':=by simpa using e'
  exact hc j u hj
theorem factsP{W:World}{p:SlT}{o:Out}(h:PatsV W p [o]):p.2.1=1∧∃g q,p.1=some ⟨g,0,none⟩∧g<W.heap.size∧W.cell? ⟨g,0,none⟩=some (.slice q.1 q.2.1 q.2.2)∧OutV W q o:=by
  obtain ⟨h1,b,vs,h2,h3⟩:=h
  obtain ⟨q,rfl,h4⟩:=h3.one
  obtain ⟨g,e,hg,-,hc⟩:=h2.get slL (i:=0) (by simp)
  exact ⟨h1,g,q,e,hg,by simpa using hc 0 _ rfl,h4⟩
theorem parsed5{s:ByteArray}{g:ProgP}{w:World}(hg:Gl w)(hx:parseF s=some g):Calls Tryz.prog 7 #[.string s] w fun r w'=>∃v,r= .returned v∧ProgV w' (fun _=>True) g v∧Keeps [] w w':=by
  have HX:=Lib.hid hx;have HG:=Lib.hid hg
  clear hx hg
  go_enter Tryz.func7,Tryz.ntmps7
  go_wp2_with fail
  refine calls_at (fun V=>Keeps [] w V∧V.heap[w.heap.size]? =some (.cells #[.slice none 0 0,.slice none 0 0] 32 (0,0))) ⟨kps,cel⟩ ?_
  rintro V ⟨hkV,hOV⟩
  refine (parse_any (HG.out.keep hkV (by simp)) HX.out).mono ?_
  rintro r W ⟨v,rfl,hv,hk⟩
  obtain ⟨pa,pc,qa,qc,rfl,h1,h2⟩:=hv
  have lV:=h_lt hOV
  have HO:=Lib.hid (hk.at hOV (by simp));have HK:=Lib.hid (hkV.trans (fp':= []) hk (by simp));have H1:=Lib.hid h1;have H2:=Lib.hid h2
  have lO:=h_lt HO.out
  have hne:w.heap.size≠W.heap.size:=Nat.ne_of_lt lO
  clear hkV hOV hk h1 h2
  go_wp2_with ((with_reducible show wpList _ _ _ (Oper.mk none (.store 32 (.tmp 2) _) _ _ _ _::_) _ _);refine stT 32 w.heap.size 0 #[.slice none 0 0,.slice none 0 0] ((kA (k0 [] W) _).at HO.out (by simp)) rfl (.agg #[.slice pa g.rules.length pc,.slice qa g.funcs.length qc]) rfl (by kernel_rfl) (by simp [Value.cells]) (by simp [Value.cells,Value.oneCell']) ?_)
  intro w2 hs2
  have HKS:=Lib.hid (show Keeps [w.heap.size] W w2 from Keeps.trans (fp':= [w.heap.size]) kps hs2.keeps (by simp))
  have hr2:=hs2.row
  clear hs2
  go_wp2_with fail
  refine ret_at (v:= .agg #[.slice pa g.rules.length pc,.slice qa g.funcs.length qc]) (fun U=>U=w2) rfl (fun w1 hW=>by
    subst hW
    have x0:=cell_of_heap hr2 0
    have x1:=cell_of_heap hr2 1
    simp [Value.cells] at x0 x1
    simp [results,Tryz.results7,go_sem,x0,x1]) rfl (fun w1 hW=> ?_)
  subst hW
  have hV:∀x∈ [w.heap.size],¬V.heap.size≤x:=fun x hx=>by
    simp at hx;omega
  exact ⟨_,rfl,⟨pa,pc,qa,qc,rfl,(H1.out.kp ruleL HKS.out hV).to ruleL fun _ _=>trivial,(H2.out.kp funcL HKS.out hV).to funcL fun _ _=>trivial⟩,HK.out.trans HKS.out (by intro x hx;simp at hx;right;omega)⟩
theorem known5{w:World}(hg:Gl w):Calls Tryz.prog 9 #[] w fun r w'=>r= .returned (.bool true)∧Keeps [] w w':=by
  obtain ⟨gI,tI,cI,kI,nI,x0,x1,x2,x3,psI,⟨a1,a2,a3⟩,ra,rsc,rar,e0,e1,e2,e3,e4,e5⟩:=toldA
  obtain ⟨gJ,tJ,cJ,kJ,nJ,q,y,psJ,⟨b1,b2,b3⟩,rb,lq,ly⟩:=toldB
  have HG:=Lib.hid hg;have A1:=Lib.hid a1;have A2:=Lib.hid a2;have A3:=Lib.hid a3;have B1:=Lib.hid b1;have B2:=Lib.hid b2;have B3:=Lib.hid b3
  have hla:cI.rules.length=1:=by rw [ra];rfl
  have hlb:cJ.rules.length=1:=by rw [rb];rfl
  have RA:=Lib.hid ra;have RB:=Lib.hid rb;have LQ:=Lib.hid lq;have LY:=Lib.hid ly
  have E0:=Lib.hid e0;have E1:=Lib.hid e1;have E2:=Lib.hid e2;have E3:=Lib.hid e3;have E4:=Lib.hid e4;have E5:=Lib.hid e5
  have HLA:=Lib.hid hla;have HLB:=Lib.hid hlb;have RSC:=Lib.hid rsc;have RAR:=Lib.hid rar
  have hq1:FloatKind.f64.format.order 4607182418800017408 4607182418800017408=some Ordering.eq:=by kernel_rfl
  clear hg a1 a2 a3 b1 b2 b3 ra rb lq ly e0 e1 e2 e3 e4 e5 hla hlb rsc rar
  go_enter Tryz.func9,Tryz.ntmps9
  go_wp2_with fail
  refine (parsed5 HG.out A1.out).mono ?_
  rintro r w1 ⟨v,rfl,hv,hk1⟩
  have HV:=Lib.hid hv;have HK1:=Lib.hid hk1
  clear hv hk1
  go_wp2_with fail
  refine (comp5 A2.out A3.out HV.out).mono ?_
  rintro r w2 ⟨cv,rfl,hcv,hk2⟩
  obtain ⟨a,cap,b,rfl,hp⟩:=hcv
  rw [HLA.out,RSC.out,RAR.out]
  rw [RA.out] at hp
  have HPA:=Lib.hid hp;have HK2:=Lib.hid (HK1.out.trans (fp':= []) hk2 (by simp))
  clear hp hk2 HK1 HV
  go_wp2_with fail
  refine calls_at (fun V=>Keeps [] w2 V∧V.heap[w2.heap.size]? =some (.cells #[.slice a 1 cap,.slice none 0 0,.int .i64 1,.int .i64 0] 24 (0,0))) ⟨kps,cel⟩ ?_
  rintro w3 ⟨hk3,hcA⟩
  have HK3:=Lib.hid (HK2.out.trans (fp':= []) hk3 (by simp))
  refine (parsed5 (HG.out.keep HK3.out (by simp)) B1.out).mono ?_
  rintro r w4 ⟨v,rfl,hv,hk4⟩
  have HV:=Lib.hid hv;have HCA:=Lib.hid (hk4.at hcA (by simp));have HPA:=Lib.hid ((HPA.out.kp (Stay.of hk3)).kp (Stay.of hk4));have HK4:=Lib.hid (HK3.out.trans (fp':= []) hk4 (by simp))
  clear hv hk4 hk3 hcA HK3 HK2
  go_wp2_with fail
  refine (comp5 B2.out B3.out HV.out).mono ?_
  rintro r w5 ⟨cv,rfl,hcv,hk5⟩
  obtain ⟨a',cap',b',rfl,hp⟩:=hcv
  rw [HLB.out]
  rw [RB.out] at hp
  have HPB:=Lib.hid hp;have HCA:=Lib.hid (hk5.at HCA.out (by simp));have HPA:=Lib.hid (HPA.out.kp (Stay.of hk5));have HK5:=Lib.hid (HK4.out.trans (fp':= []) hk5 (by simp))
  clear hp hk5 HK4 HV
  go_upto_region 3 with fail
  refine wp_at (fun V=>Keeps [] w5 V∧V.heap[w5.heap.size]? =some (.cells #[.slice a' 1 cap',.slice none 0 0,.int .i64 (cJ.scalars:Nat),.int .i64 (cJ.arrays:Nat)] 24 (0,0))) ⟨kps,cel⟩ ?_
  rintro w6 ⟨hk6,hcB⟩
  have hcA:=hk6.at HCA.out (by simp)
  have hpA:=HPA.out.kp (Stay.of hk6);have hpB:=HPB.out.kp (Stay.of hk6)
  have HK6:=Lib.hid (HK5.out.trans (fp':= []) hk6 (by simp))
  obtain ⟨gR,tR,rfl,lR,d2,d3,-,-,-,hbo⟩:=factsR hpA
  obtain ⟨bl,gO,hb1,lO,fO⟩:=factsO hbo (by simp)
  rw [hb1,bl] at d3
  obtain ⟨gS,tS,rfl,lS,s2,s3,-,-,hpa,hbo2⟩:=factsR hpB
  obtain ⟨pl1,gP,qq,hp1,lP,hq0,hqo⟩:=factsP hpa
  rw [hp1,pl1] at s2
  rw [hqo.1,LQ.out] at hq0
  rw [hbo2.1,LY.out] at s3
  have z0:w6.cell? ⟨gO,0,none⟩=some (.int .i64 1):=by have:=fO 0 (by simp) 0 _ rfl;rw [←E0.out];exact this
  have z4:w6.cell? ⟨gO,4,none⟩=some (.float .f64 4607182418800017408):=by have:=fO 0 (by simp) 4 _ rfl;rw [show (4607182418800017408:Nat)=x0.n from E1.out.symm];exact this
  have z5:w6.cell? ⟨gO,5,none⟩=some (.int .i64 12):=by have:=fO 1 (by simp) 0 _ rfl;rw [←E2.out];exact this
  have z10:w6.cell? ⟨gO,10,none⟩=some (.int .i64 6):=by have:=fO 2 (by simp) 0 _ rfl;rw [←E3.out];exact this
  have z13:w6.cell? ⟨gO,13,none⟩=some (.string x2.s):=fO 2 (by simp) 3 _ rfl
  have z15:w6.cell? ⟨gO,15,none⟩=some (.int .i64 29):=by have:=fO 3 (by simp) 0 _ rfl;rw [←E5.out];exact this
  have hs2:(x2.s.toList== [43])=true:=same_true (same_iff.2 E4.out)
  have k0':=cell_of_heap hcA 0;have k2':=cell_of_heap hcA 2;have k3':=cell_of_heap hcA 3;have lA:=h_lt hcA
  have j0:=cell_of_heap hcB 0;have lB:=h_lt hcB
  simp at k0' k2' k3' j0 d3
  clear hk6 hcA hcB hpA hpB hbo hbo2 hpa hqo fO HPA HPB HCA HK5 bl hb1 pl1 hp1
  go_wp2_with fail
  exact bodyPost_ret (v:= .bool true) (by simp [results,Tryz.results9,go_sem]) rfl ⟨rfl,HK6.out⟩
theorem law_codeKnown{w:World}(hg:Gl w):Calls Tryz.prog 3 #[] w fun r w'=>r= .returned (.bool true)∧Keeps [] w w':=by
  obtain ⟨gI,tI,a1,a2⟩:=toldC
  have HG:=Lib.hid hg;have A1:=Lib.hid a1;have A2:=Lib.hid a2
  have hq1:FloatKind.f64.format.order 4607182418800017408 4607182418800017408=some Ordering.eq:=by kernel_rfl
  have hq9:FloatKind.f64.format.order 4621256167635550208 4621256167635550208=some Ordering.eq:=by kernel_rfl
  clear hg a1 a2
  go_enter Tryz.func3,Tryz.ntmps3
  go_wp2_with fail
  refine (parsed5 HG.out A1.out).mono ?_
  rintro r w1 ⟨v,rfl,hv,hk1⟩
  have HV:=Lib.hid hv;have HK1:=Lib.hid hk1
  clear hv hk1
  go_wp2_with fail
  refine (wcompile_no HV.out (fun _ _ _ h=>check_any h A2.out) (by show (32:Int)≠0;decide)).mono ?_
  rintro r w2 ⟨rfl,hk2⟩
  have HK2:=Lib.hid (HK1.out.trans (fp':= []) hk2 (by simp))
  clear hk2 HK1 HV
  go_wp2_with fail
  refine calls_at (fun V=>Keeps [] w2 V) kps ?_
  rintro w3 hk3
  have HK3:=Lib.hid (HK2.out.trans (fp':= []) hk3 (by simp))
  clear hk3 HK2
  refine (wspecials_any w3).mono ?_
  rintro r w4 ⟨rfl,hs4,hk4⟩
  have HS4:=Lib.hid hs4;have HK4:=Lib.hid (HK3.out.trans (fp':= []) hk4 (by simp))
  clear hs4 hk4
  go_wp2_with fail
  refine (known5 (HG.out.keep HK4.out (by simp))).mono ?_
  rintro r w5 ⟨rfl,hk5⟩
  have HK5:=Lib.hid (HK4.out.trans (fp':= []) hk5 (by simp))
  obtain ⟨g1,o1,e1,s0⟩:=strAt hk5 HS4.out (i:=0) (by decide)
  obtain ⟨g2,o2,e2,s12⟩:=strAt hk5 HS4.out (i:=12) (by decide)
  simp only [Option.some.injEq,Addr.mk.injEq,and_true] at e1 e2
  obtain ⟨rfl,rfl⟩:=e1
  obtain ⟨rfl,rfl⟩:=e2
  have hb0:(specials[0].toList== [78,82])=true:=same_true (by kernel_rfl)
  have hb12:(specials[12].toList== [71,65,80,83])=true:=same_true (by kernel_rfl)
  simp only [Nat.zero_add] at s0 s12
  generalize specials[0]=u0 at*
  generalize specials[12]=u12 at*
  have hl13:specials.length=13:=rfl
  clear hk5 HS4 HK4
  go_wp2_with fail
  exact bodyPost_ret (v:= .bool true) (by simp [results,Tryz.results3,go_sem]) rfl ⟨rfl,HK5.out⟩
end Go.Proofs.YteafcepaolofpaaGreatDoor
end
section
/- The closed facts of the row. -/
namespace Go.Proofs.YteafcepaolofpaaGreatDoor.codeKnown
open Go.ChangeShapes Go.WideShapes Go.ChangeAt Go.RowKit Go.WideMaps Go.WideElems
theorem closed:joinedFacts Tryz.prog 3 Tryz.f3 Rows.codeKnownSpec Rows.codeKnownRow=true:=by
  unfold joinedFacts
  simp only [Bool.and_eq_true]
  repeat' apply And.intro
  all_goals (as_aux_lemma=>kernel_rfl)
theorem named:Tryz.prog.funcNamed Rows.codeKnownRow.func=some 3:=by kernel_rfl
theorem inst:Tryz.f3.isInstance Tryz.prog Rows.codeKnownRow.origin Rows.codeKnownRow.targs:=of_decide_eq_true (by kernel_rfl)
theorem wrap:Tryz.f3.isWrapper Tryz.prog Rows.codeKnownRow.wrapper Rows.codeKnownRow.mainSum:=by unfold Func.isWrapper;first|(rw [if_pos (by decide+kernel)];kernel_rfl)|(rw [if_neg (by decide+kernel)];exact ⟨rfl,rfl⟩)
end Go.Proofs.YteafcepaolofpaaGreatDoor.codeKnown
end
section
/- What is read of the laid tables: the cells of optimize and float64info. -/
namespace Go.Proofs.YteafcepaolofpaaGreatDoor
open Go.ChangeShapes Go.WideShapes Go.ChangeAt Go.RowKit Go.WideMaps Go.WideElems
theorem laidVars_mem{P:Program}{w:World}:∀{l:List (String×DataW Unit)} {ps:List MemPlace},DataW.LaidVars P w l ps→∀{x:String×DataW Unit},x∈l→
    ∃g t cs fuel p,P.globalNamed x.1=some g∧(P.globals[g]?).map (·.type)=some t∧w.var? P x.1=some cs∧DataW.trod (fun _=>()) P w 0 (fun _=>true) false fuel t cs.toList=some (x.2,p)
  | [],_,_,x,hx=>by cases hx
  | (n,d)::r,ps,h,x,hx=>by
    obtain ⟨g,t,cs,fuel,p,q,h1,h2,h3,h4,h5,_⟩:=h
    rcases List.mem_cons.1 hx with rfl|hx
    · exact ⟨g,t,cs,fuel,p,h1,h2,h3,h4⟩
    · exact laidVars_mem h5 hx
theorem cellsOf178:Tryz.prog.cellsOf 205=1:=by kernel_rfl
theorem gl_of_laid{W:World}{l:List (String×DataW Unit)}(h:laidMetH Tryz.prog l W)(hh:(l.all fun x=>x.2.handleName?.isNone)=true)(h1:("internal/strconv.optimize",Rows.laid_internal_strconv_optimize)∈l)(h2:("internal/strconv.float64info",Rows.laid_internal_strconv_float64info)∈l):Gl W:=by
  rw [MakeChecks.laidMetH_plain _ _ _ hh] at h
  obtain ⟨ps,h,-⟩:=h
  obtain ⟨g,t,cs,fuel,p,hg,ht,hv,hd⟩:=laidVars_mem h h1
  obtain ⟨g2,t2,cs2,fuel2,p2,hg2,ht2,hv2,hd2⟩:=laidVars_mem h h2
  obtain rfl:=Option.some.inj ((show Tryz.prog.globalNamed "internal/strconv.optimize" =some 12 by kernel_rfl).symm.trans hg)
  obtain rfl:=Option.some.inj ((show Tryz.prog.globalNamed "internal/strconv.float64info" =some 13 by kernel_rfl).symm.trans hg2)
  obtain rfl:=Option.some.inj ((show (Tryz.prog.globals[12]?).map (·.type)=some 4 by kernel_rfl).symm.trans ht)
  obtain rfl:=Option.some.inj ((show (Tryz.prog.globals[13]?).map (·.type)=some 263 by kernel_rfl).symm.trans ht2)
  obtain ⟨b,hb,hx⟩:=DataW.trod_bool Tryz.underlying4 hd
  have hb2:b=true:=by
    have e:(DataW.lit (.bool true):DataW Unit)= .lit (.bool b):=(Prod.mk.inj hx).1
    simpa using e.symm
  subst hb2
  have c12:W.cell? ⟨12,0,none⟩=some (.bool true):=by
    rw [World.var?_cell hg hv 0]
    have:cs.toList[0]? =some (.bool true):=by rw [hb];rfl
    simpa using this
  obtain ⟨xs,n2,_,hxe,_,hxl,hfld⟩:=DataW.trod_struct Tryz.underlying263 hd2
  have f0:DataW.trod (fun _=>()) Tryz.prog W 0 (fun _=>true) false n2 205 ((cs2.toList.drop 0).take (Tryz.prog.cellsOf 205))=xs[0]? :=hfld 0 _ rfl
  rw [cellsOf178] at f0
  have hxl3:xs.length=3:=hxl
  have hx0:xs[0]? =some (xs[0]'(by omega)):=List.getElem?_eq_getElem _
  rw [hx0] at f0
  obtain ⟨z,e1,e2,_⟩:=DataW.trod_int Tryz.underlying205 f0
  have e3:(xs.map (·.1))= [.lit (.int .u64 52),.lit (.int .u64 11),.lit (.int .i64 (-1023))]:=(DataW.agg.inj (Prod.mk.inj hxe).1).symm
  have e4:(xs.map (·.1))[0]? =some (.lit (.int .u64 52)):=by rw [e3];rfl
  rw [List.getElem?_map,hx0,e2] at e4
  have hz:z=52:=by simpa using e4
  subst hz
  have c14:W.cell? ⟨13,0,none⟩=some (.int .u64 52):=by
    rw [World.var?_cell hg2 hv2 0]
    have h0:((cs2.toList.drop 0).take 1)[0]? =some (.int .u64 52):=by rw [e1];rfl
    simpa using h0
  exact ⟨c12,c14,World.block_lt_of_cell? W ⟨13,0,none⟩ c14⟩
theorem own:ownKnob Tryz.prog.godebug=none:=by kernel_rfl
end Go.Proofs.YteafcepaolofpaaGreatDoor
end
