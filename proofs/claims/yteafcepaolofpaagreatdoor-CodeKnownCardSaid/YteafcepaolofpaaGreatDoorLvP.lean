/- Texts of this claim, joined: ReB, LvR, LvP. -/
import Derived.Test.YteafcepaolofpaaGreatDoorReA
import Derived.Deep.RegionHeld3
import Derived.Test.YteafcepaolofpaaGreatDoorLevelsN
import Derived.Test.YteafcepaolofpaaGreatDoorLevelsP
set_option maxRecDepth 100000
set_option maxHeartbeats 4000000
set_option linter.unusedSimpArgs false
set_option linter.unusedVariables false
set_option linter.unusedSectionVars false
section
/- The reader of a regular expression at the text a: right, Parse. Made by a program (re8.py). -/
namespace Go.Proofs.YteafcepaolofpaaGreatDoor
open Go.RowKit
theorem kids1(w:World):Calls Tryz.prog 282 #[.int .i64 1] w fun r w'=>r= .returned (.int .i64 0)∧w'=w:=by
  go_enter Tryz.func282,Tryz.ntmps282
  go_wp2_with fail
  exact bodyPost_ret (v:= .int .i64 0) (by simp [results,Tryz.results282,go_sem]) rfl ⟨rfl,rfl⟩
theorem sets97(b:Int)(w:World):Calls Tryz.prog 279 #[reV b] w fun r w'=>r= .returned (.int .i64 1)∧Keeps [] w w':=by
  go_enter Tryz.func279,Tryz.ntmps279
  go_wp2_with fail
  exact bodyPost_ret (v:= .int .i64 1) (by simp [results,Tryz.results279,go_sem]) rfl ⟨rfl,kps⟩
theorem deep97(b:Int)(w:World):Calls Tryz.prog 278 #[reV b,.int .i64 40] w fun r w'=>r= .returned (.bool true)∧Keeps [] w w':=by
  go_enter Tryz.func278,Tryz.ntmps278
  go_wp2_with fail
  refine wp_at (fun V=>Keeps [] w V∧V.heap[w.heap.size]? =some (.cells #[.int .i64 1,.int .u64 0,.int .u64 b,.int .u64 0,.int .u64 0,.slice none 0 0] 325 (0,0))) ⟨kps,cel⟩ ?_
  rintro W2 ⟨hk2,hr⟩
  have HK2:=Lib.hid hk2
  have x5:=cell_of_heap hr 5;have lR:=h_lt hr
  simp at x5
  clear hk2 hr
  go_loopg [5] 1 (fun g j wr=>g=1∧j= .int .i64 0∧wr=W2)
  case atStart=>exact ⟨rfl,rfl,rfl⟩
  case round=>
    obtain ⟨rfl,rfl,rfl⟩:=hrel
    go_wp2_with fail
    exact bodyPost_ret (v:= .bool true) (by simp [results,Tryz.results278,go_sem]) rfl ⟨rfl,HK2.out⟩
theorem shaped97(b:Int)(w:World):Calls Tryz.prog 277 #[reV b] w fun r w'=>r= .returned (.bool true)∧Keeps [] w w':=by
  go_enter Tryz.func277,Tryz.ntmps277
  go_wp2_with fail
  refine wp_at (fun V=>Keeps [] w V∧V.heap[w.heap.size]? =some (.cells #[.int .i64 1,.int .u64 0,.int .u64 b,.int .u64 0,.int .u64 0,.slice none 0 0] 325 (0,0))) ⟨kps,cel⟩ ?_
  rintro W1 ⟨hk2,hr⟩
  have HK1:=Lib.hid hk2;have HR1:=Lib.hid hr
  have x0:=cell_of_heap hr 0;have x5:=cell_of_heap hr 5;have lR:=h_lt hr
  simp at x0 x5
  clear hk2 hr
  refine wp_region_held_drew (S:=fun V=>V=W1.drew) (by kernel_rfl) rfl ?_
  intro _
  have HK2:=Lib.hid (HK1.out.trans (fp':= []) (kD (k0 [] W1)) (by simp))
  have x0:W1.drew.cell? ⟨w.heap.size,0,none⟩=some (.int .i64 1):=x0
  have x5:W1.drew.cell? ⟨w.heap.size,5,none⟩=some (.slice none 0 0):=x5
  have lR:w.heap.size<W1.drew.heap.size:=lR
  generalize W1.drew=wd at*
  refine wpAnyH_take (i:=0) (v:= ?_) rfl (by kernel_rfl) (by kernel_rfl) (by kernel_rfl) (fun _ _ _ h=>h) (Or.inl ⟨by rfl, ?_⟩) rfl ?_
  rotate_left
  · intro w' hSw;subst hSw;go_simp;(try with_reducible rfl)
  simp only [Act.put,List.getElem_toArray,List.getElem_cons_zero,List.getElem_cons_succ,List.setIfInBounds_toArray,List.set_cons_zero,List.set_cons_succ]
  refine wpAnyH_take (i:=1) (v:= ?_) rfl (by kernel_rfl) (by kernel_rfl) (by kernel_rfl) (fun _ _ _ h=>h) (Or.inl ⟨by rfl, ?_⟩) rfl ?_
  rotate_left
  · intro w' hSw;subst hSw;go_simp;(try with_reducible rfl)
  simp only [Act.put,List.getElem_toArray,List.getElem_cons_zero,List.getElem_cons_succ,List.setIfInBounds_toArray,List.set_cons_zero,List.set_cons_succ]
  refine wpAnyH_take (i:=2) (v:= ?_) rfl (by kernel_rfl) (by kernel_rfl) (by kernel_rfl) (fun _ _ _ h=>h) (Or.inl ⟨by rfl, ?_⟩) rfl ?_
  rotate_left
  · intro w' hSw;subst hSw;go_simp;(try with_reducible rfl)
  simp only [Act.put,List.getElem_toArray,List.getElem_cons_zero,List.getElem_cons_succ,List.setIfInBounds_toArray,List.set_cons_zero,List.set_cons_succ]
  refine wpAnyH_take (i:=3) (v:= ?_) rfl (by kernel_rfl) (by kernel_rfl) (by kernel_rfl) (fun _ _ _ h=>h) (Or.inl ⟨by rfl, ?_⟩) rfl ?_
  rotate_left
  · intro w' hSw;subst hSw;go_simp;(try with_reducible rfl)
  simp only [Act.put,List.getElem_toArray,List.getElem_cons_zero,List.getElem_cons_succ,List.setIfInBounds_toArray,List.set_cons_zero,List.set_cons_succ]
  refine wpAnyH_take (i:=4) (v:= ?_) rfl (by kernel_rfl) (by kernel_rfl) (by kernel_rfl) (fun _ _ _ h=>h) (Or.inl ⟨by rfl, ?_⟩) rfl ?_
  rotate_left
  · intro w' hSw;subst hSw;go_simp;(try with_reducible rfl)
  simp only [Act.put,List.getElem_toArray,List.getElem_cons_zero,List.getElem_cons_succ,List.setIfInBounds_toArray,List.set_cons_zero,List.set_cons_succ]
  refine wpAnyH_ready (rs:= [5]) (by kernel_rfl) (by simp) ?_
  refine AllReadyH.cons rfl (fun KQ hK=> ?_) AllReadyH.nil
  go_simp
  refine (kids1 _).mono ?_
  rintro r W3 ⟨rfl,rfl⟩
  refine hK.out _ _ rfl (fun _=> ?_)
  clear hK
  (try simp only [Act.put,List.getElem_toArray,List.getElem_cons_zero,List.getElem_cons_succ,List.setIfInBounds_toArray,List.set_cons_zero,List.set_cons_succ])
  refine wpAnyH_take (i:=6) (v:= ?_) rfl (by kernel_rfl) (by kernel_rfl) (by kernel_rfl) (fun _ _ _ h=>h) (Or.inl ⟨by rfl, ?_⟩) rfl ?_
  rotate_left
  · intro w' hSw;subst hSw;go_simp;(try with_reducible rfl)
  simp only [Act.put,List.getElem_toArray,List.getElem_cons_zero,List.getElem_cons_succ,List.setIfInBounds_toArray,List.set_cons_zero,List.set_cons_succ]
  refine wpAnyH_take (i:=7) (v:= ?_) rfl (by kernel_rfl) (by kernel_rfl) (by kernel_rfl) (fun _ _ _ h=>h) (Or.inl ⟨by rfl, ?_⟩) rfl ?_
  rotate_left
  · intro w' hSw;subst hSw;go_simp;(try with_reducible rfl)
  simp only [Act.put,List.getElem_toArray,List.getElem_cons_zero,List.getElem_cons_succ,List.setIfInBounds_toArray,List.set_cons_zero,List.set_cons_succ]
  refine wpAnyH_take (i:=8) (v:= ?_) rfl (by kernel_rfl) (by kernel_rfl) (by kernel_rfl) (fun _ _ _ h=>h) (Or.inl ⟨by rfl, ?_⟩) rfl ?_
  rotate_left
  · intro w' hSw;subst hSw;go_simp;(try with_reducible rfl)
  simp only [Act.put,List.getElem_toArray,List.getElem_cons_zero,List.getElem_cons_succ,List.setIfInBounds_toArray,List.set_cons_zero,List.set_cons_succ]
  refine wpAnyH_take (i:=9) (v:= ?_) rfl (by kernel_rfl) (by kernel_rfl) (by kernel_rfl) (fun _ _ _ h=>h) (Or.inl ⟨by rfl, ?_⟩) rfl ?_
  rotate_left
  · intro w' hSw;subst hSw;go_simp;(try with_reducible rfl)
  simp only [Act.put,List.getElem_toArray,List.getElem_cons_zero,List.getElem_cons_succ,List.setIfInBounds_toArray,List.set_cons_zero,List.set_cons_succ]
  refine wpAnyH_take (i:=10) (v:= ?_) rfl (by kernel_rfl) (by kernel_rfl) (by kernel_rfl) (fun _ _ _ h=>h) (Or.inl ⟨by rfl, ?_⟩) rfl ?_
  rotate_left
  · intro w' hSw;subst hSw;go_simp;(try with_reducible rfl)
  simp only [Act.put,List.getElem_toArray,List.getElem_cons_zero,List.getElem_cons_succ,List.setIfInBounds_toArray,List.set_cons_zero,List.set_cons_succ]
  refine wpAnyH_take (i:=11) (v:= ?_) rfl (by kernel_rfl) (by kernel_rfl) (by kernel_rfl) (fun _ _ _ h=>h) (Or.inl ⟨by rfl, ?_⟩) rfl ?_
  rotate_left
  · intro w' hSw;subst hSw;go_simp;(try with_reducible rfl)
  simp only [Act.put,List.getElem_toArray,List.getElem_cons_zero,List.getElem_cons_succ,List.setIfInBounds_toArray,List.set_cons_zero,List.set_cons_succ]
  refine wpAnyH_take (i:=12) (v:=undef) rfl (by kernel_rfl) (by kernel_rfl) (by kernel_rfl) (fun _ _ _ h=>h) (Or.inr ⟨by rfl,rfl⟩) rfl ?_
  simp only [Act.put,List.getElem_toArray,List.getElem_cons_zero,List.getElem_cons_succ,List.setIfInBounds_toArray,List.set_cons_zero,List.set_cons_succ]
  refine wpAnyH_take (i:=13) (v:=undef) rfl (by kernel_rfl) (by kernel_rfl) (by kernel_rfl) (fun _ _ _ h=>h) (Or.inr ⟨by rfl,rfl⟩) rfl ?_
  simp only [Act.put,List.getElem_toArray,List.getElem_cons_zero,List.getElem_cons_succ,List.setIfInBounds_toArray,List.set_cons_zero,List.set_cons_succ]
  refine wpAnyH_take (i:=14) (v:=undef) rfl (by kernel_rfl) (by kernel_rfl) (by kernel_rfl) (fun _ _ _ h=>h) (Or.inr ⟨by rfl,rfl⟩) rfl ?_
  simp only [Act.put,List.getElem_toArray,List.getElem_cons_zero,List.getElem_cons_succ,List.setIfInBounds_toArray,List.set_cons_zero,List.set_cons_succ]
  refine wpAnyH_take (i:=15) (v:=undef) rfl (by kernel_rfl) (by kernel_rfl) (by kernel_rfl) (fun _ _ _ h=>h) (Or.inr ⟨by rfl,rfl⟩) rfl ?_
  simp only [Act.put,List.getElem_toArray,List.getElem_cons_zero,List.getElem_cons_succ,List.setIfInBounds_toArray,List.set_cons_zero,List.set_cons_succ]
  refine wpAnyH_take (i:=16) (v:= ?_) rfl (by kernel_rfl) (by kernel_rfl) (by kernel_rfl) (fun _ _ _ h=>h) (Or.inl ⟨by rfl, ?_⟩) rfl ?_
  rotate_left
  · intro w' hSw;subst hSw;go_simp;(try with_reducible rfl)
  simp only [Act.put,List.getElem_toArray,List.getElem_cons_zero,List.getElem_cons_succ,List.setIfInBounds_toArray,List.set_cons_zero,List.set_cons_succ]
  refine wpAnyH_take (i:=17) (v:= ?_) rfl (by kernel_rfl) (by kernel_rfl) (by kernel_rfl) (fun _ _ _ h=>h) (Or.inl ⟨by rfl, ?_⟩) rfl ?_
  rotate_left
  · intro w' hSw;subst hSw;go_simp;(try with_reducible rfl)
  simp only [Act.put,List.getElem_toArray,List.getElem_cons_zero,List.getElem_cons_succ,List.setIfInBounds_toArray,List.set_cons_zero,List.set_cons_succ]
  refine wpAnyH_done (by kernel_rfl) ?_ _
  go_wp2_with fail
  go_loopg [3] 1 (fun g j wr=>g=1∧j= .int .i64 0∧wr=W3)
  case atStart=>exact ⟨rfl,rfl,rfl⟩
  case round=>
    obtain ⟨rfl,rfl,rfl⟩:=hrel
    go_wp2_with fail
    exact bodyPost_ret (v:= .bool true) (by simp [results,Tryz.results277,go_sem]) rfl ⟨rfl,HK2.out⟩
theorem right97(b:Int)(w:World):Calls Tryz.prog 273 #[reV b] w fun r w'=>r= .returned (.bool true)∧Keeps [] w w':=by
  go_enter Tryz.func273,Tryz.ntmps273
  go_wp2_with fail
  refine calls_at (fun V=>Keeps [] w V∧V.heap[w.heap.size]? =some (.cells #[.int .i64 1,.int .u64 0,.int .u64 b,.int .u64 0,.int .u64 0,.slice none 0 0] 325 (0,0))) ⟨kps,cel⟩ ?_
  rintro W1 ⟨hk1,hr1⟩
  refine (shaped97 b W1).mono ?_
  rintro r W2 ⟨rfl,hk2⟩
  have hr2:=hk2.at hr1 (by simp)
  have HK2:=Lib.hid (hk1.trans (fp':= []) hk2 (by simp));have HR2:=Lib.hid hr2
  have x0:=cell_of_heap hr2 0;have x1:=cell_of_heap hr2 1;have x2:=cell_of_heap hr2 2;have x3:=cell_of_heap hr2 3;have x4:=cell_of_heap hr2 4;have x5:=cell_of_heap hr2 5;have lR:=h_lt hr2
  simp at x0 x1 x2 x3 x4 x5
  clear hk1 hr1 hk2 hr2
  go_wp2_with fail
  refine (deep97 b W2).mono ?_
  rintro r W3 ⟨rfl,hk3⟩
  have hr3:=hk3.at HR2.out (by simp)
  have HK3:=Lib.hid (HK2.out.trans (fp':= []) hk3 (by simp))
  clear x0 x1 x2 x3 x4 x5 lR
  have x0:=cell_of_heap hr3 0;have x1:=cell_of_heap hr3 1;have x2:=cell_of_heap hr3 2;have x3:=cell_of_heap hr3 3;have x4:=cell_of_heap hr3 4;have x5:=cell_of_heap hr3 5;have lR:=h_lt hr3
  simp at x0 x1 x2 x3 x4 x5
  clear hk3 hr3
  go_wp2_with fail
  refine (sets97 b W3).mono ?_
  rintro r W4 ⟨rfl,hk4⟩
  have HK4:=Lib.hid (HK3.out.trans (fp':= []) hk4 (by simp))
  clear hk4
  go_wp2_with fail
  exact bodyPost_ret (v:= .bool true) (by simp [results,Tryz.results273,go_sem]) rfl ⟨rfl,HK4.out⟩
theorem re97{t:ByteArray}(ht:t=⟨#[97]⟩)(w:World):Calls Tryz.prog 268 #[.string t] w fun r w'=>∃b:Int,r= .returned (.tuple #[reV b,.int .i64 0,.int .i64 0])∧Keeps [] w w':=by
  subst ht
  go_enter Tryz.func268,Tryz.ntmps268
  go_wp2_with fail
  refine calls_at (fun V=>Keeps [] w V∧V.heap[w.heap.size]? =some (.cells #[.int .i64 0,.int .u64 0,.int .u64 0,.int .u64 0,.int .u64 0,.slice none 0 0] 325 (0,0))∧V.heap[w.heap.size+1]? =some (rdO 0)) ⟨kps,by simp only [hA,World.size_alloc,Nat.left_eq_add,Nat.one_ne_zero,reduceIte],by simp only [hA,World.size_alloc,reduceIte]⟩ ?_
  rintro W1 ⟨hk1,ho1,hp1⟩
  refine (alt97 hp1).mono ?_
  rintro r W2 ⟨b,rfl,hk2,hp2⟩
  have HO2:=Lib.hid (hk2.at ho1 (by simp));have HP2:=Lib.hid hp2
  have HK2:=Lib.hid (show Keeps [] w W2 from hk1.trans hk2 (by intro x hx;simp at hx;right;omega))
  clear hk1 ho1 hp1 hk2 hp2
  have c0:=cell_of_heap HP2.out 0;have c1:=cell_of_heap HP2.out 1;have c3:=cell_of_heap HP2.out 3;have l:=h_lt HP2.out
  simp at c0 c1 c3
  go_wp2_with fail
  refine calls_at (fun V=>Keeps [] W2 V∧V.heap[W2.heap.size]? =some (.cells #[.int .i64 1,.int .u64 0,.int .u64 b,.int .u64 0,.int .u64 0,.slice none 0 0] 325 (0,0))) ⟨kps,cel⟩ ?_
  rintro W3 ⟨hk3,hr3⟩
  refine (right97 b W3).mono ?_
  rintro r W4 ⟨rfl,hk4⟩
  have hr4:=hk4.at hr3 (by simp)
  have HO4:=Lib.hid (hk4.at (hk3.at HO2.out (by simp)) (by simp))
  have HK4:=Lib.hid (HK2.out.trans (fp':= []) (hk3.trans (fp':= []) hk4 (by simp)) (by simp))
  clear c0 c1 c3 l
  have x0:=cell_of_heap hr4 0;have x1:=cell_of_heap hr4 1;have x2:=cell_of_heap hr4 2;have x3:=cell_of_heap hr4 3;have x4:=cell_of_heap hr4 4;have x5:=cell_of_heap hr4 5;have lR:=h_lt hr4
  simp at x0 x1 x2 x3 x4 x5
  clear hk3 hr3 hk4 hr4
  go_wp2_with ((with_reducible show wpList _ _ _ (Oper.mk none (.store 325 _ _) _ _ _ _::_) _ _);refine stT 325 (w.heap.size) 0 #[.int .i64 0,.int .u64 0,.int .u64 0,.int .u64 0,.int .u64 0,.slice none 0 0] HO4.out rfl (reV b) rfl (by kernel_rfl) (by simp [Value.cells]) (by simp [Value.cells,Value.oneCell']) ?_)
  intro w2 hs2
  have HKS:=Lib.hid hs2.keeps
  have hr2:=hs2.row
  clear hs2
  go_wp2_with fail
  refine ret_at (v:= .tuple #[reV b,.int .i64 0,.int .i64 0]) (fun U=>U=w2) rfl (fun w1 hW=>by
    subst hW
    have x0:=cell_of_heap hr2 0
    have x1:=cell_of_heap hr2 1
    have x2:=cell_of_heap hr2 2
    have x3:=cell_of_heap hr2 3
    have x4:=cell_of_heap hr2 4
    have x5:=cell_of_heap hr2 5
    simp [Value.cells] at x0 x1 x2 x3 x4 x5
    simp [results,Tryz.results268,go_sem,x0,x1,x2,x3,x4,x5]) rfl (fun w1 hW=> ?_)
  subst hW
  exact ⟨_,rfl,HK4.out.trans HKS.out (by intro x hx;simp at hx;right;omega)⟩
end Go.Proofs.YteafcepaolofpaaGreatDoor
end
section
/- The parser: an operand that is a regular expression. Made by a program (lvr.py). -/
namespace Go.Proofs.YteafcepaolofpaaGreatDoor
open Go.RowKit
theorem operand_regex{s:ByteArray}{p:Nat}{st:PSt}{tx:ByteArray}{nm fr te:Nat}(ht:nextF s st.pos true=some ⟨4,tx,nm,fr,te⟩)(htx:tx=⟨#[97]⟩):Hands s p st ⟨te,st.opn,st.ng⟩ (.mk 3 tx 0 [] (placeOf s fr).1 (placeOf s fr).2) 267:=by
  intro w h
  have g_p:=h.p
  obtain ⟨le1,le2,-⟩:=nextF_le ht h.le
  simp only at le1 le2
  have le3:=Nat.le_trans le1 le2
  have HP0:=Lib.hid h;have HK0:=Lib.hid (Keeps.refl [p] w);have HT:=Lib.hid ht;have HTX:=Lib.hid htx
  clear h ht le1 htx

  go_enter Tryz.func267,Tryz.ntmps267
  have l_p:=h_lt HP0.out.row
  go_wp2_with fail
  refine calls_at (fun W=>Keeps [] w W∧W.heap[w.heap.size]? =some (.cells #[.int .i64 0,.string ⟨#[]⟩,.float .f64 0,.slice none 0 0,.complex .f64 0 0] 58 (0,0))) ⟨(by with_reducible repeat (first|exact k0 _ _|refine kA ?_ _|refine kD ?_|refine kS ?_ (by simp)|refine kM ?_ (by simp))),(by simp only [hS,hA,hD,hM,World.size_setCell,World.size_drew,reduceIte,Option.map_some,Obj.put]<;>rfl)⟩ ?_
  rintro w1 ⟨Kw1,cw1_R⟩
  have n_p_R:p≠w.heap.size:=Nat.ne_of_lt l_p
  have n_R_p:w.heap.size≠p:=Nat.ne_of_gt l_p
  have o_R:w.heap.size≤w.heap.size:=Nat.le_refl _
  have g_R:13<w.heap.size:=Nat.lt_trans g_p l_p
  have HKw1:=Lib.hid (HK0.out.trans Kw1 (by simp))
  have HPw1:=Lib.hid (HP0.out.keep Kw1)
  have Rw1_R:=Lib.hid cw1_R
  clear Kw1 cw1_R l_p HK0 HP0
  refine (see_any HPw1.out HT.out).mono ?_
  rintro r e2 ⟨rfl,hk⟩
  have Re2_R:=Lib.hid (hk.at Rw1_R.out (by simp))
  have HKe2:=Lib.hid (HKw1.out.trans hk (by simp))
  have HPe2:=Lib.hid (HPw1.out.keep hk)
  clear hk Rw1_R HKw1 HPw1
  have l_p:=h_lt HPe2.out.row
  have l_R:=h_lt Re2_R.out
  go_wp2_with fail
  refine calls_at (fun W=>Keeps [] e2 W∧W.heap[e2.heap.size]? =some (.cells #[.int .i64 4,.string tx,.float .f64 nm,.int .i64 fr,.int .i64 te] 109 (0,0))) ⟨(by with_reducible repeat (first|exact k0 _ _|refine kA ?_ _|refine kD ?_|refine kS ?_ (by simp)|refine kM ?_ (by simp))),(by simp only [hS,hA,hD,hM,World.size_setCell,World.size_drew,reduceIte,Option.map_some,Obj.put]<;>rfl)⟩ ?_
  rintro w3 ⟨Kw3,cw3_T⟩
  have n_p_T:p≠e2.heap.size:=Nat.ne_of_lt l_p
  have n_T_p:e2.heap.size≠p:=Nat.ne_of_gt l_p
  have n_R_T:w.heap.size≠e2.heap.size:=Nat.ne_of_lt l_R
  have n_T_R:e2.heap.size≠w.heap.size:=Nat.ne_of_gt l_R
  have o_T:w.heap.size≤e2.heap.size:=HKe2.out.size
  have g_T:13<e2.heap.size:=Nat.lt_trans g_p l_p
  have Rw3_R:=Lib.hid (Kw3.at Re2_R.out (by simp))
  have HKw3:=Lib.hid (HKe2.out.trans Kw3 (by simp))
  have HPw3:=Lib.hid (HPe2.out.keep Kw3)
  have Rw3_T:=Lib.hid cw3_T
  clear Kw3 cw3_T l_p l_R Re2_R HKe2 HPe2
  refine (ok_any HPw3.out).mono ?_
  rintro r w' ⟨rfl,hw'⟩
  rw [hw']
  clear hw'
  have l_p:=h_lt HPw3.out.row
  have l_R:=h_lt Rw3_R.out
  obtain ⟨l_T,xT_0,xT_1,xT_2,xT_3,xT_4,yT_0,yT_1,yT_2,yT_3,yT_4⟩:=cf5 Rw3_T.out
  go_wp2_with fail
  clear l_p l_R l_T xT_0 xT_1 xT_2 xT_3 xT_4 yT_0 yT_1 yT_2 yT_3 yT_4
  refine (place_tok HPw3.out ⟨4,tx,nm,fr,te⟩ le3).mono ?_
  rintro r e4 ⟨rfl,hk⟩
  have Re4_R:=Lib.hid (hk.at Rw3_R.out (by simp))
  have Re4_T:=Lib.hid (hk.at Rw3_T.out (by simp))
  have HKe4:=Lib.hid (HKw3.out.trans hk (by simp))
  have HPe4:=Lib.hid (HPw3.out.keep hk)
  clear hk Rw3_R Rw3_T HKw3 HPw3
  obtain ⟨l_p,xp_0,xp_1,xp_2,xp_3,xp_4,xp_5,yp_0,yp_1,yp_2,yp_3,yp_4,yp_5⟩:=cf6 HPe4.out.row
  obtain ⟨l_R,xR_0,xR_1,xR_2,xR_3,xR_4,yR_0,yR_1,yR_2,yR_3,yR_4⟩:=cf5 Re4_R.out
  obtain ⟨l_T,xT_0,xT_1,xT_2,xT_3,xT_4,yT_0,yT_1,yT_2,yT_3,yT_4⟩:=cf5 Re4_T.out
  have rp4:=HPe4.out.row
  go_wp2_with fail
  refine calls_at (fun W=>Keeps [p] e4 W∧W.heap[p]? =some (.cells #[.string s,.int .i64 te,.int .i64 st.opn,.bool st.ng,.int .i64 0,.complex .f64 0 0] 106 (0,0))) ⟨kps,celx rp4⟩ ?_
  rintro w5 ⟨Kw5,cw5_p⟩
  clear l_p xp_0 xp_1 xp_2 xp_3 xp_4 xp_5 yp_0 yp_1 yp_2 yp_3 yp_4 yp_5 l_R xR_0 xR_1 xR_2 xR_3 xR_4 yR_0 yR_1 yR_2 yR_3 yR_4 l_T xT_0 xT_1 xT_2 xT_3 xT_4 yT_0 yT_1 yT_2 yT_3 yT_4 rp4
  have Rw5_R:=Lib.hid (Kw5.at Re4_R.out (by simp [n_R_p]))
  have Rw5_T:=Lib.hid (Kw5.at Re4_T.out (by simp [n_T_p]))
  have HKw5:=Lib.hid (HKe4.out.trans Kw5 (by simp))
  have HPw5:Hid (PP s p ⟨te,st.opn,st.ng⟩ w5):=Lib.hid (HPe4.out.upd Kw5 (by simp [g_p]) cw5_p (by first|assumption|exact HPe4.out.le) HPe4.out.ob)
  clear Kw5 cw5_p Re4_R Re4_T HKe4 HPe4
  refine (re97 HTX.out w5).mono ?_
  rintro r e6 ⟨b,rfl,hk⟩
  have Re6_R:=Lib.hid (hk.at Rw5_R.out (by simp))
  have Re6_T:=Lib.hid (hk.at Rw5_T.out (by simp))
  have HKe6:=Lib.hid (HKw5.out.trans hk (by simp))
  have HPe6:=Lib.hid (HPw5.out.keep hk)
  clear hk Rw5_R Rw5_T HKw5 HPw5
  have l_p:=h_lt HPe6.out.row
  obtain ⟨l_R,xR_0,xR_1,xR_2,xR_3,xR_4,yR_0,yR_1,yR_2,yR_3,yR_4⟩:=cf5 Re6_R.out
  obtain ⟨l_T,xT_0,xT_1,xT_2,xT_3,xT_4,yT_0,yT_1,yT_2,yT_3,yT_4⟩:=cf5 Re6_T.out
  have rR6:=Re6_R.out
  go_wp2_with fail
  refine ret_at (v:= .agg #[.int .i64 3,.string tx,.float .f64 0,.slice none 0 0,.complex .f64 (placeOf s fr).1 (placeOf s fr).2]) (fun W=>Keeps [w.heap.size] e6 W∧W.heap[w.heap.size]? =some (.cells #[.int .i64 3,.string tx,.float .f64 0,.slice none 0 0,.complex .f64 (placeOf s fr).1 (placeOf s fr).2] 58 (0,0))) ⟨kps,(by simp only [hS,hA,hD,hM,reduceIte,World.size_setCell,World.size_alloc,Option.map_some,Obj.put,rR6,Nat.ne_of_lt l_R,Nat.ne_of_gt l_R]<;>rfl)⟩ (fun w7 hW=> ?_) rfl (fun w7 hW=> ?_)
  · obtain ⟨-,cR⟩:=hW
    have q0:=cell_of_heap cR 0
    have q1:=cell_of_heap cR 1
    have q2:=cell_of_heap cR 2
    have q3:=cell_of_heap cR 3
    have q4:=cell_of_heap cR 4
    simp at q0 q1 q2 q3 q4
    simp [results,Tryz.results267,go_sem,q0,q1,q2,q3,q4]
  · obtain ⟨Kw7,-⟩:=hW
    exact ⟨_,rfl,.mk .nil,HPe6.out.keepN Kw7 (by simp;exact n_p_R) (by simp [g_R]),HKe6.out.trans Kw7 (by simp [o_R])⟩
end Go.Proofs.YteafcepaolofpaaGreatDoor
end
section
/- The parser: print without kids. Made by a program (lvr.py). -/
namespace Go.Proofs.YteafcepaolofpaaGreatDoor
open Go.RowKit
theorem simple_print0{s:ByteArray}{p:Nat}{st:PSt}{kd:Int}{tx:ByteArray}{nm fr te:Nat}(ht:nextF s st.pos true=some ⟨kd,tx,nm,fr,te⟩)(hn_break:notF s st ⟨#[98,114,101,97,107]⟩=some ())(hn_continue:notF s st ⟨#[99,111,110,116,105,110,117,101]⟩=some ())(hn_next:notF s st ⟨#[110,101,120,116]⟩=some ())(hn_exit:notF s st ⟨#[101,120,105,116]⟩=some ())(hn_return:notF s st ⟨#[114,101,116,117,114,110]⟩=some ())(hn_delete:notF s st ⟨#[100,101,108,101,116,101]⟩=some ()){st2:PSt}(hx:takeF s st ⟨#[112,114,105,110,116]⟩=some (true,st2))(hb:beginsF s st2=some false)(hq:notF s st2 ⟨#[62]⟩=some ()):Hands s p st st2 (.mk 42 ⟨#[]⟩ 0 [] (placeOf s fr).1 (placeOf s fr).2) 183:=by
  intro w h
  have g_p:=h.p
  have HP0:=Lib.hid h;have HK0:=Lib.hid (Keeps.refl [p] w);have HT:=Lib.hid ht;have HN_break:=Lib.hid (take_not hn_break);have HN_continue:=Lib.hid (take_not hn_continue);have HN_next:=Lib.hid (take_not hn_next);have HN_exit:=Lib.hid (take_not hn_exit);have HN_return:=Lib.hid (take_not hn_return);have HN_delete:=Lib.hid (take_not hn_delete);have HX:=Lib.hid hx;have HB:=Lib.hid hb;have HQ:=Lib.hid hq
  clear h ht hn_break hn_continue hn_next hn_exit hn_return hn_delete hx hb hq
  go_enter Tryz.func183,Tryz.ntmps183
  have l_p:=h_lt HP0.out.row
  go_wp2_with fail
  refine calls_at (fun W=>Keeps [] w W∧W.heap[w.heap.size]? =some (.cells #[.int .i64 0,.string ⟨#[]⟩,.float .f64 0,.slice none 0 0,.complex .f64 0 0] 58 (0,0))) ⟨(by with_reducible repeat (first|exact k0 _ _|refine kA ?_ _|refine kD ?_|refine kS ?_ (by simp)|refine kM ?_ (by simp))),(by simp only [hS,hA,hD,hM,World.size_setCell,World.size_drew,reduceIte,Option.map_some,Obj.put]<;>rfl)⟩ ?_
  rintro w1 ⟨Kw1,cw1_R⟩
  have n_p_R:p≠w.heap.size:=Nat.ne_of_lt l_p
  have n_R_p:w.heap.size≠p:=Nat.ne_of_gt l_p
  have o_R:w.heap.size≤w.heap.size:=Nat.le_refl _
  have g_R:13<w.heap.size:=Nat.lt_trans g_p l_p
  have HKw1:=Lib.hid (HK0.out.trans Kw1 (by simp))
  have HPw1:=Lib.hid (HP0.out.keep Kw1)
  have Rw1_R:=Lib.hid cw1_R
  clear Kw1 cw1_R l_p HK0 HP0
  refine (here_any HPw1.out HT.out).mono ?_
  rintro r e2 ⟨rfl,hk⟩
  have Re2_R:=Lib.hid (hk.at Rw1_R.out (by simp))
  have HKe2:=Lib.hid (HKw1.out.trans hk (by simp))
  have HPe2:=Lib.hid (HPw1.out.keep hk)
  clear hk Rw1_R HKw1 HPw1
  have l_p:=h_lt HPe2.out.row
  have l_R:=h_lt Re2_R.out
  go_wp2_with fail
  refine calls_at (fun W=>Keeps [] e2 W∧W.heap[e2.heap.size]? =some (.cells #[.int .i64 kd,.string tx,.float .f64 nm,.int .i64 fr,.int .i64 te] 109 (0,0))) ⟨(by with_reducible repeat (first|exact k0 _ _|refine kA ?_ _|refine kD ?_|refine kS ?_ (by simp)|refine kM ?_ (by simp))),(by simp only [hS,hA,hD,hM,World.size_setCell,World.size_drew,reduceIte,Option.map_some,Obj.put]<;>rfl)⟩ ?_
  rintro w3 ⟨Kw3,cw3_T⟩
  have n_p_T:p≠e2.heap.size:=Nat.ne_of_lt l_p
  have n_T_p:e2.heap.size≠p:=Nat.ne_of_gt l_p
  have n_R_T:w.heap.size≠e2.heap.size:=Nat.ne_of_lt l_R
  have n_T_R:e2.heap.size≠w.heap.size:=Nat.ne_of_gt l_R
  have o_T:w.heap.size≤e2.heap.size:=HKe2.out.size
  have g_T:13<e2.heap.size:=Nat.lt_trans g_p l_p
  have Rw3_R:=Lib.hid (Kw3.at Re2_R.out (by simp))
  have HKw3:=Lib.hid (HKe2.out.trans Kw3 (by simp))
  have HPw3:=Lib.hid (HPe2.out.keep Kw3)
  have Rw3_T:=Lib.hid cw3_T
  clear Kw3 cw3_T l_p l_R Re2_R HKe2 HPe2
  refine (take_any HPw3.out HN_break.out).mono ?_
  rintro r e4 ⟨rfl,hp,hk⟩
  have Re4_R:=Lib.hid (hk.at Rw3_R.out (by simp [n_R_p]))
  have Re4_T:=Lib.hid (hk.at Rw3_T.out (by simp [n_T_p]))
  have HKe4:=Lib.hid (HKw3.out.trans hk (by simp))
  have HPne4:=Lib.hid hp
  clear hp
  clear hk Rw3_R Rw3_T HKw3 HPw3
  have l_p:=h_lt HPne4.out.row
  have l_R:=h_lt Re4_R.out
  have l_T:=h_lt Re4_T.out
  go_wp2_with fail
  clear l_p l_R l_T
  refine (take_any HPne4.out HN_continue.out).mono ?_
  rintro r e5 ⟨rfl,hp,hk⟩
  have Re5_R:=Lib.hid (hk.at Re4_R.out (by simp [n_R_p]))
  have Re5_T:=Lib.hid (hk.at Re4_T.out (by simp [n_T_p]))
  have HKe5:=Lib.hid (HKe4.out.trans hk (by simp))
  have HPne5:=Lib.hid hp
  clear hp
  clear hk Re4_R Re4_T HKe4 HPne4
  have l_p:=h_lt HPne5.out.row
  have l_R:=h_lt Re5_R.out
  have l_T:=h_lt Re5_T.out
  go_wp2_with fail
  clear l_p l_R l_T
  refine (take_any HPne5.out HN_next.out).mono ?_
  rintro r e6 ⟨rfl,hp,hk⟩
  have Re6_R:=Lib.hid (hk.at Re5_R.out (by simp [n_R_p]))
  have Re6_T:=Lib.hid (hk.at Re5_T.out (by simp [n_T_p]))
  have HKe6:=Lib.hid (HKe5.out.trans hk (by simp))
  have HPne6:=Lib.hid hp
  clear hp
  clear hk Re5_R Re5_T HKe5 HPne5
  have l_p:=h_lt HPne6.out.row
  have l_R:=h_lt Re6_R.out
  have l_T:=h_lt Re6_T.out
  go_wp2_with fail
  clear l_p l_R l_T
  refine (take_any HPne6.out HN_exit.out).mono ?_
  rintro r e7 ⟨rfl,hp,hk⟩
  have Re7_R:=Lib.hid (hk.at Re6_R.out (by simp [n_R_p]))
  have Re7_T:=Lib.hid (hk.at Re6_T.out (by simp [n_T_p]))
  have HKe7:=Lib.hid (HKe6.out.trans hk (by simp))
  have HPne7:=Lib.hid hp
  clear hp
  clear hk Re6_R Re6_T HKe6 HPne6
  have l_p:=h_lt HPne7.out.row
  have l_R:=h_lt Re7_R.out
  have l_T:=h_lt Re7_T.out
  go_wp2_with fail
  clear l_p l_R l_T
  refine (take_any HPne7.out HN_return.out).mono ?_
  rintro r e8 ⟨rfl,hp,hk⟩
  have Re8_R:=Lib.hid (hk.at Re7_R.out (by simp [n_R_p]))
  have Re8_T:=Lib.hid (hk.at Re7_T.out (by simp [n_T_p]))
  have HKe8:=Lib.hid (HKe7.out.trans hk (by simp))
  have HPne8:=Lib.hid hp
  clear hp
  clear hk Re7_R Re7_T HKe7 HPne7
  have l_p:=h_lt HPne8.out.row
  have l_R:=h_lt Re8_R.out
  have l_T:=h_lt Re8_T.out
  go_wp2_with fail
  clear l_p l_R l_T
  refine (take_any HPne8.out HN_delete.out).mono ?_
  rintro r e9 ⟨rfl,hp,hk⟩
  have Re9_R:=Lib.hid (hk.at Re8_R.out (by simp [n_R_p]))
  have Re9_T:=Lib.hid (hk.at Re8_T.out (by simp [n_T_p]))
  have HKe9:=Lib.hid (HKe8.out.trans hk (by simp))
  have HPne9:=Lib.hid hp
  clear hp
  clear hk Re8_R Re8_T HKe8 HPne8
  have l_p:=h_lt HPne9.out.row
  have l_R:=h_lt Re9_R.out
  have l_T:=h_lt Re9_T.out
  go_wp2_with fail
  clear l_p l_R l_T
  refine (take_any HPne9.out HX.out).mono ?_
  rintro r e10 ⟨rfl,hp,hk⟩
  have Re10_R:=Lib.hid (hk.at Re9_R.out (by simp [n_R_p]))
  have Re10_T:=Lib.hid (hk.at Re9_T.out (by simp [n_T_p]))
  have HKe10:=Lib.hid (HKe9.out.trans hk (by simp))
  have HPne10:=Lib.hid hp
  clear hp
  clear hk Re9_R Re9_T HKe9 HPne9
  have l_p:=h_lt HPne10.out.row
  have l_R:=h_lt Re10_R.out
  have l_T:=h_lt Re10_T.out
  go_wp2_with fail
  refine calls_at (fun W=>Keeps [] e10 W∧W.heap[e10.heap.size]? =some (.cells #[.int .i64 42,.string ⟨#[]⟩,.float .f64 0,.slice none 0 0,.complex .f64 (placeOf s fr).1 (placeOf s fr).2] 58 (0,0))) ⟨(by with_reducible repeat (first|exact k0 _ _|refine kA ?_ _|refine kD ?_|refine kS ?_ (by simp)|refine kM ?_ (by simp))),(by simp only [hS,hA,hD,hM,World.size_setCell,World.size_drew,reduceIte,Option.map_some,Obj.put]<;>rfl)⟩ ?_
  rintro w11 ⟨Kw11,cw11_B⟩
  have n_p_B:p≠e10.heap.size:=Nat.ne_of_lt l_p
  have n_B_p:e10.heap.size≠p:=Nat.ne_of_gt l_p
  have n_R_B:w.heap.size≠e10.heap.size:=Nat.ne_of_lt l_R
  have n_B_R:e10.heap.size≠w.heap.size:=Nat.ne_of_gt l_R
  have n_T_B:e2.heap.size≠e10.heap.size:=Nat.ne_of_lt l_T
  have n_B_T:e10.heap.size≠e2.heap.size:=Nat.ne_of_gt l_T
  have o_B:w.heap.size≤e10.heap.size:=HKe10.out.size
  have g_B:13<e10.heap.size:=Nat.lt_trans g_p l_p
  have Rw11_R:=Lib.hid (Kw11.at Re10_R.out (by simp))
  have Rw11_T:=Lib.hid (Kw11.at Re10_T.out (by simp))
  have HKw11:=Lib.hid (HKe10.out.trans Kw11 (by simp))
  have HPw11:=Lib.hid (HPne10.out.keep Kw11)
  have Rw11_B:=Lib.hid cw11_B
  clear Kw11 cw11_B l_p l_R l_T Re10_R Re10_T HKe10 HPne10
  refine (begins_any HPw11.out HB.out).mono ?_
  rintro r e12 ⟨rfl,hk⟩
  have Re12_R:=Lib.hid (hk.at Rw11_R.out (by simp))
  have Re12_T:=Lib.hid (hk.at Rw11_T.out (by simp))
  have Re12_B:=Lib.hid (hk.at Rw11_B.out (by simp))
  have HKe12:=Lib.hid (HKw11.out.trans hk (by simp))
  have HPe12:=Lib.hid (HPw11.out.keep hk)
  clear hk Rw11_R Rw11_T Rw11_B HKw11 HPw11
  have l_p:=h_lt HPe12.out.row
  have l_R:=h_lt Re12_R.out
  have l_T:=h_lt Re12_T.out
  have l_B:=h_lt Re12_B.out
  go_wp2_with fail
  clear l_p l_R l_T l_B
  refine (behind_any HPe12.out HQ.out).mono ?_
  rintro r e15 ⟨rfl,hk⟩
  have Re15_R:=Lib.hid (hk.at Re12_R.out (by simp))
  have Re15_T:=Lib.hid (hk.at Re12_T.out (by simp))
  have Re15_B:=Lib.hid (hk.at Re12_B.out (by simp))
  have HKe15:=Lib.hid (HKe12.out.trans hk (by simp))
  have HPe15:=Lib.hid (HPe12.out.keep hk)
  clear hk Re12_R Re12_T Re12_B HKe12 HPe12
  have l_p:=h_lt HPe15.out.row
  obtain ⟨l_R,xR_0,xR_1,xR_2,xR_3,xR_4,yR_0,yR_1,yR_2,yR_3,yR_4⟩:=cf5 Re15_R.out
  have l_T:=h_lt Re15_T.out
  obtain ⟨l_B,xB_0,xB_1,xB_2,xB_3,xB_4,yB_0,yB_1,yB_2,yB_3,yB_4⟩:=cf5 Re15_B.out
  go_wp2_with fail
  refine ret_at (v:= .agg #[.int .i64 42,.string ⟨#[]⟩,.float .f64 0,.slice none 0 0,.complex .f64 (placeOf s fr).1 (placeOf s fr).2]) (fun W=>Keeps [w.heap.size] e15 W∧W.heap[w.heap.size]? =some (.cells #[.int .i64 42,.string ⟨#[]⟩,.float .f64 0,.slice none 0 0,.complex .f64 (placeOf s fr).1 (placeOf s fr).2] 58 (0,0))) ⟨(by with_reducible repeat (first|exact k0 _ _|refine kA ?_ _|refine kD ?_|refine kS ?_ (by simp)|refine kM ?_ (by simp))),(by simp only [hS,hA,hD,hM,reduceIte,Option.map_some,Obj.put,Re15_R.out,Nat.ne_of_lt l_R,Nat.ne_of_gt l_R]<;>rfl)⟩ (fun w16 hW=> ?_) rfl (fun w16 hW=> ?_)
  · obtain ⟨Kw16,cw16_R⟩:=hW
    have q0:=cell_of_heap cw16_R 0
    have q1:=cell_of_heap cw16_R 1
    have q2:=cell_of_heap cw16_R 2
    have q3:=cell_of_heap cw16_R 3
    have q4:=cell_of_heap cw16_R 4
    simp at q0 q1 q2 q3 q4
    simp [results,Tryz.results183,go_sem,q0,q1,q2,q3,q4]
  · obtain ⟨Kw16,cw16_R⟩:=hW
    have Rw16_T:=Lib.hid (Kw16.at Re15_T.out (by simp [n_T_R]))
    have Rw16_B:=Lib.hid (Kw16.at Re15_B.out (by simp [n_B_R]))
    have HKw16:=Lib.hid (HKe15.out.trans Kw16 (by simp [o_R]))
    have HPw16:=Lib.hid (HPe15.out.keepN Kw16 (by simp [n_p_R]) (by simp [g_R]))
    have Rw16_R:=Lib.hid cw16_R
    clear Kw16 cw16_R l_p l_R xR_0 xR_1 xR_2 xR_3 xR_4 yR_0 yR_1 yR_2 yR_3 yR_4 l_T l_B xB_0 xB_1 xB_2 xB_3 xB_4 yB_0 yB_1 yB_2 yB_3 yB_4 Re15_T Re15_B HKe15 HPe15 Re15_R
    exact ⟨_,rfl,.mk .nil,HPw16.out,HKw16.out⟩

end Go.Proofs.YteafcepaolofpaaGreatDoor
end
