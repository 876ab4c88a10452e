/- What a function's and a rule's plain parse says, item does. -/
import Derived.Test.YtkfillfkbhbbjaaGreatDoorPrgA
set_option maxRecDepth 100000
set_option maxHeartbeats 4000000
set_option linter.unusedSimpArgs false
set_option linter.unusedVariables false
namespace Go.Proofs.YtkfillfkbhbbjaaGreatDoor
open Go.RowKit

theorem rule_begin {s : ByteArray} {p : Nat} {st : PSt} {st2 st3 : PSt} {b : Node} {kd : Int} {tx : ByteArray} {nm fr te : Nat} (ht : nextF s st.pos true = some ⟨kd, tx, nm, fr, te⟩) (hx : takeF s st ⟨#[66, 69, 71, 73, 78]⟩ = some (true, st2)) (hb : Hands s p st2 st3 b 107) (w : World) (h : PP s p st w) :
  Calls Tryz.prog 66 #[.pointer (some ⟨p, 0, none⟩)] w fun r w' => ∃ v, r = .returned (.tuple #[v, .bool true]) ∧ RuleV w' (fun g => w.heap.size ≤ g) ⟨1, 0, [], b, (placeOf s fr).1, (placeOf s fr).2⟩ v ∧ PP s p st3 w' ∧ Keeps [p] w w' := by
 have g_p := h.p
 have HP0 := zh h; have HK0 := zh (Keeps.refl [p] w); have HT := zh ht; have HX := zh hx; have HBL := zh hb
 clear h ht hx hb
 go_enter Tryz.func66, Tryz.ntmps66
 have l_p := h_lt HP0.out.row
 go_wp2_with fail
 refine calls_at (fun W => Keeps [] w W ∧ W.heap[w.heap.size]? = some (.cells #[.int .i64 0, .int .i64 0, .slice none 0 0, .int .i64 0, .string ⟨#[]⟩, .float .f64 0, .slice none 0 0, .complex .f64 0 0, .complex .f64 0 0] 52 (0, 0))) ⟨(by with_reducible repeat (first | exact k0 _ _ | refine kA ?_ _ | refine kD ?_ | refine kS ?_ (by simp) | refine kM ?_ (by simp))), (by simp only [hS, hA, hD, hM, World.size_setCell, World.size_drew, reduceIte, Option.map_some, Obj.put] <;> rfl)⟩ ?_
 rintro w1 ⟨Kw1, cw1_R⟩
 have ⟨n_p_R, n_R_p⟩ := zne l_p
 have o_R : w.heap.size ≤ w.heap.size := Nat.le_refl _
 have g_R : 14 < w.heap.size := Nat.lt_trans g_p l_p
 have HKw1 := zh (HK0.out.trans Kw1 (by simp))
 have HPw1 := zh (HP0.out.keep Kw1)
 have Rw1_R := zh cw1_R
 clear Kw1 cw1_R l_p HK0 HP0
 refine (here_any HPw1.out HT.out).mono ?_
 rintro r e2 ⟨rfl, hk⟩
 have Re2_R := zh (hk.at Rw1_R.out (by simp))
 have HKe2 := zh (HKw1.out.trans hk (by simp))
 have HPe2 := zh (HPw1.out.keep hk)
 clear hk Rw1_R HKw1 HPw1
 have l_p := h_lt HPe2.out.row
 have l_p_1 : p < e2.heap.size + 1 := Nat.lt_add_right 1 l_p
 have l_p_2 : p < e2.heap.size + 2 := Nat.lt_add_right 2 l_p
 have l_p_3 : p < e2.heap.size + 3 := Nat.lt_add_right 3 l_p
 have l_R := h_lt Re2_R.out
 have l_R_1 : w.heap.size < e2.heap.size + 1 := Nat.lt_add_right 1 l_R
 have l_R_2 : w.heap.size < e2.heap.size + 2 := Nat.lt_add_right 2 l_R
 have l_R_3 : w.heap.size < e2.heap.size + 3 := Nat.lt_add_right 3 l_R
 go_wp2_with fail
 refine wp_at (fun W => Keeps [] e2 W ∧ W.heap[e2.heap.size]? = some (.cells #[.int .i64 kd, .string tx, .float .f64 nm, .int .i64 fr, .int .i64 te] 90 (0, 0)) ∧ W.heap[e2.heap.size + 1]? = some (.cells #[.int .i64 0, .int .i64 0, .slice none 0 0, .int .i64 0, .string ⟨#[]⟩, .float .f64 0, .slice none 0 0, .complex .f64 0 0, .complex .f64 (placeOf s fr).1 (placeOf s fr).2] 52 (0, 0)) ∧ W.heap[e2.heap.size + 2]? = some (.cells #[.string ⟨#[66, 69, 71, 73, 78]⟩, .string ⟨#[69, 78, 68]⟩, .string ⟨#[71, 65, 80]⟩] 124 (0, 0)) ∧ W.heap[e2.heap.size + 3]? = some (.cells #[.int .i64 1, .int .i64 2, .int .i64 4] 168 (0, 0))) ⟨(by with_reducible repeat (first | exact k0 _ _ | refine kA ?_ _ | refine kD ?_ | refine kS ?_ (by simp) | refine kM ?_ (by simp))), (by simp only [hS, hA, hD, hM, World.size_alloc, World.size_setCell, World.size_drew, size_mset, Nat.add_right_cancel_iff, Nat.left_eq_add, Nat.add_eq_left, Nat.reduceEqDiff, Nat.add_assoc, Nat.reduceAdd, Nat.one_ne_zero, Nat.zero_ne_one, reduceIte, Option.map_some, Obj.put] <;> rfl), (by simp only [hS, hA, hD, hM, World.size_alloc, World.size_setCell, World.size_drew, size_mset, Nat.add_right_cancel_iff, Nat.left_eq_add, Nat.add_eq_left, Nat.reduceEqDiff, Nat.add_assoc, Nat.reduceAdd, Nat.one_ne_zero, Nat.zero_ne_one, reduceIte, Option.map_some, Obj.put] <;> rfl), (by simp only [hS, hA, hD, hM, World.size_alloc, World.size_setCell, World.size_drew, size_mset, Nat.add_right_cancel_iff, Nat.left_eq_add, Nat.add_eq_left, Nat.reduceEqDiff, Nat.add_assoc, Nat.reduceAdd, Nat.one_ne_zero, Nat.zero_ne_one, reduceIte, Option.map_some, Obj.put] <;> rfl), (by simp only [hS, hA, hD, hM, World.size_alloc, World.size_setCell, World.size_drew, size_mset, Nat.add_right_cancel_iff, Nat.left_eq_add, Nat.add_eq_left, Nat.reduceEqDiff, Nat.add_assoc, Nat.reduceAdd, Nat.one_ne_zero, Nat.zero_ne_one, reduceIte, Option.map_some, Obj.put] <;> rfl)⟩ ?_
 rintro w3 ⟨Kw3, cw3_T, cw3_F, cw3_A, cw3_C⟩
 have ⟨n_p_T, n_T_p⟩ := zne l_p
 have ⟨n_R_T, n_T_R⟩ := zne l_R
 have o_T : w.heap.size ≤ e2.heap.size := HKe2.out.size
 have g_T : 14 < e2.heap.size := Nat.lt_trans g_p l_p
 have ⟨n_p_F, n_F_p⟩ := zne (Nat.lt_add_right 1 l_p)
 have ⟨n_R_F, n_F_R⟩ := zne (Nat.lt_add_right 1 l_R)
 have n_T_F : e2.heap.size ≠ e2.heap.size + 1 := by simp
 have n_F_T : e2.heap.size + 1 ≠ e2.heap.size := by simp
 have o_F : w.heap.size ≤ e2.heap.size + 1 := Nat.le_trans (HKe2.out.size) (Nat.le_add_right _ 1)
 have g_F : 14 < e2.heap.size + 1 := Nat.lt_trans g_p (Nat.lt_add_right 1 l_p)
 have ⟨n_p_A, n_A_p⟩ := zne (Nat.lt_add_right 2 l_p)
 have ⟨n_R_A, n_A_R⟩ := zne (Nat.lt_add_right 2 l_R)
 have n_T_A : e2.heap.size ≠ e2.heap.size + 2 := by simp
 have n_A_T : e2.heap.size + 2 ≠ e2.heap.size := by simp
 have n_F_A : e2.heap.size + 1 ≠ e2.heap.size + 2 := by simp
 have n_A_F : e2.heap.size + 2 ≠ e2.heap.size + 1 := by simp
 have o_A : w.heap.size ≤ e2.heap.size + 2 := Nat.le_trans (HKe2.out.size) (Nat.le_add_right _ 2)
 have g_A : 14 < e2.heap.size + 2 := Nat.lt_trans g_p (Nat.lt_add_right 2 l_p)
 have ⟨n_p_C, n_C_p⟩ := zne (Nat.lt_add_right 3 l_p)
 have ⟨n_R_C, n_C_R⟩ := zne (Nat.lt_add_right 3 l_R)
 have n_T_C : e2.heap.size ≠ e2.heap.size + 3 := by simp
 have n_C_T : e2.heap.size + 3 ≠ e2.heap.size := by simp
 have n_F_C : e2.heap.size + 1 ≠ e2.heap.size + 3 := by simp
 have n_C_F : e2.heap.size + 3 ≠ e2.heap.size + 1 := by simp
 have n_A_C : e2.heap.size + 2 ≠ e2.heap.size + 3 := by simp
 have n_C_A : e2.heap.size + 3 ≠ e2.heap.size + 2 := by simp
 have o_C : w.heap.size ≤ e2.heap.size + 3 := Nat.le_trans (HKe2.out.size) (Nat.le_add_right _ 3)
 have g_C : 14 < e2.heap.size + 3 := Nat.lt_trans g_p (Nat.lt_add_right 3 l_p)
 have Rw3_R := zh (Kw3.at Re2_R.out (by simp))
 have HKw3 := zh (HKe2.out.trans Kw3 (by simp))
 have HPw3 := zh (HPe2.out.keep Kw3)
 have Rw3_T := zh cw3_T
 have Rw3_F := zh cw3_F
 have Rw3_A := zh cw3_A
 have Rw3_C := zh cw3_C
 clear Kw3 cw3_T cw3_F cw3_A cw3_C l_p l_p_1 l_p_2 l_p_3 l_R l_R_1 l_R_2 l_R_3 Re2_R HKe2 HPe2
 refine wp_loop_rounds 5 ?_
 rw [rounds_succ]
 have l_p := h_lt HPw3.out.row
 have l_R := h_lt Rw3_R.out
 have l_T := h_lt Rw3_T.out
 have l_F := h_lt Rw3_F.out
 obtain ⟨l_A, xA_0, xA_1, xA_2, yA_0, yA_1, yA_2⟩ := cf3 Rw3_A.out
 have l_C := h_lt Rw3_C.out
 go_wp2_with fail
 clear l_p l_R l_T l_F l_A xA_0 xA_1 xA_2 yA_0 yA_1 yA_2 l_C
 refine (take_any HPw3.out HX.out).mono ?_
 rintro r e4 ⟨rfl, hp, hk⟩
 have Re4_R := zh (hk.at Rw3_R.out (by simp [n_R_p]))
 have Re4_T := zh (hk.at Rw3_T.out (by simp [n_T_p]))
 have Re4_F := zh (hk.at Rw3_F.out (by simp [n_F_p]))
 have Re4_A := zh (hk.at Rw3_A.out (by simp [n_A_p]))
 have Re4_C := zh (hk.at Rw3_C.out (by simp [n_C_p]))
 have HKe4 := zh (HKw3.out.trans hk (by simp))
 have HPne4 := zh hp
 clear hp
 clear hk Rw3_R Rw3_T Rw3_F Rw3_A Rw3_C HKw3 HPw3
 have l_p := h_lt HPne4.out.row
 have l_R := h_lt Re4_R.out
 have l_T := h_lt Re4_T.out
 obtain ⟨l_F, xF_0, xF_1, xF_2, xF_3, xF_4, xF_5, xF_6, xF_7, xF_8, yF_0, yF_1, yF_2, yF_3, yF_4, yF_5, yF_6, yF_7, yF_8⟩ := cf9 Re4_F.out
 have l_A := h_lt Re4_A.out
 obtain ⟨l_C, xC_0, xC_1, xC_2, yC_0, yC_1, yC_2⟩ := cf3 Re4_C.out
 go_wp2_with fail
 refine calls_at (fun W => Keeps [e2.heap.size + 1] e4 W ∧ W.heap[e2.heap.size + 1]? = some (.cells #[.int .i64 1, .int .i64 0, .slice none 0 0, .int .i64 0, .string ⟨#[]⟩, .float .f64 0, .slice none 0 0, .complex .f64 0 0, .complex .f64 (placeOf s fr).1 (placeOf s fr).2] 52 (0, 0))) ⟨(by with_reducible repeat (first | exact k0 _ _ | refine kA ?_ _ | refine kD ?_ | refine kS ?_ (by simp) | refine kM ?_ (by simp))), (by simp only [hS, hA, hD, hM, reduceIte, Option.map_some, Obj.put, Re4_F.out, Nat.ne_of_lt l_F, Nat.ne_of_gt l_F] <;> rfl)⟩ ?_
 rintro w5 ⟨Kw5, cw5_F⟩
 have Rw5_R := zh (Kw5.at Re4_R.out (by simp [n_R_F]))
 have Rw5_T := zh (Kw5.at Re4_T.out (by simp [n_T_F]))
 have Rw5_A := zh (Kw5.at Re4_A.out (by simp [n_A_F]))
 have Rw5_C := zh (Kw5.at Re4_C.out (by simp [n_C_F]))
 have HKw5 := zh (HKe4.out.trans Kw5 (by simp [o_F]))
 have HPw5 := zh (HPne4.out.keepN Kw5 (by simp [n_p_F]) (by simp [g_F]))
 have Rw5_F := zh cw5_F
 clear Kw5 cw5_F l_p l_R l_T l_F xF_0 xF_1 xF_2 xF_3 xF_4 xF_5 xF_6 xF_7 xF_8 yF_0 yF_1 yF_2 yF_3 yF_4 yF_5 yF_6 yF_7 yF_8 l_A l_C xC_0 xC_1 xC_2 yC_0 yC_1 yC_2 Re4_R Re4_T Re4_A Re4_C HKe4 HPne4 Re4_F
 refine (HBL.out _ HPw5.out).mono ?_
 rintro r e6 ⟨v, rfl, hn, hp, hk⟩
 have Re6_R := zh (hk.at Rw5_R.out (by simp [n_R_p]))
 have Re6_T := zh (hk.at Rw5_T.out (by simp [n_T_p]))
 have Re6_F := zh (hk.at Rw5_F.out (by simp [n_F_p]))
 have Re6_A := zh (hk.at Rw5_A.out (by simp [n_A_p]))
 have Re6_C := zh (hk.at Rw5_C.out (by simp [n_C_p]))
 have HKe6 := zh (HKw5.out.trans hk (by simp))
 have HPne6 := zh hp
 have be6 := zh hn.seg
 have o_b : w.heap.size ≤ w5.heap.size := HKw5.out.size
 have ns_b_p : ¬ (Seg w5.heap.size e6.heap.size) (p) := fun h => Nat.not_lt_of_le h.1 (h_lt HPw5.out.row)
 have ns_b_R : ¬ (Seg w5.heap.size e6.heap.size) (w.heap.size) := fun h => Nat.not_lt_of_le h.1 (h_lt Rw5_R.out)
 have ns_b_T : ¬ (Seg w5.heap.size e6.heap.size) (e2.heap.size) := fun h => Nat.not_lt_of_le h.1 (h_lt Rw5_T.out)
 have ns_b_F : ¬ (Seg w5.heap.size e6.heap.size) (e2.heap.size + 1) := fun h => Nat.not_lt_of_le h.1 (h_lt Rw5_F.out)
 have ns_b_A : ¬ (Seg w5.heap.size e6.heap.size) (e2.heap.size + 2) := fun h => Nat.not_lt_of_le h.1 (h_lt Rw5_A.out)
 have ns_b_C : ¬ (Seg w5.heap.size e6.heap.size) (e2.heap.size + 3) := fun h => Nat.not_lt_of_le h.1 (h_lt Rw5_C.out)
 have up_b : ∀ g, (Seg w5.heap.size e6.heap.size) g → g < e6.heap.size := fun _ h => h.2
 have dn_b : ∀ g, (Seg w5.heap.size e6.heap.size) g → w.heap.size ≤ g := fun _ h => Nat.le_trans o_b h.1
 obtain ⟨bt, bm, ba, bl, bc, br, bi, rfl, -, -⟩ := hn.shape
 clear hn hp
 clear hk Rw5_R Rw5_T Rw5_F Rw5_A Rw5_C HKw5 HPw5
 have l_p := h_lt HPne6.out.row
 obtain ⟨l_R, xR_0, xR_1, xR_2, xR_3, xR_4, xR_5, xR_6, xR_7, xR_8, yR_0, yR_1, yR_2, yR_3, yR_4, yR_5, yR_6, yR_7, yR_8⟩ := cf9 Re6_R.out
 have l_T := h_lt Re6_T.out
 obtain ⟨l_F, xF_0, xF_1, xF_2, xF_3, xF_4, xF_5, xF_6, xF_7, xF_8, yF_0, yF_1, yF_2, yF_3, yF_4, yF_5, yF_6, yF_7, yF_8⟩ := cf9 Re6_F.out
 have l_A := h_lt Re6_A.out
 have l_C := h_lt Re6_C.out
 go_wp2_with fail
 refine ret_at (v := .tuple #[.agg #[.int .i64 1, .int .i64 0, .slice none 0 0, .int .i64 b.kind, .string bt, .float .f64 bm, .slice ba bl bc, .complex .f64 br bi, .complex .f64 (placeOf s fr).1 (placeOf s fr).2], .bool true]) (fun W => Keeps [e2.heap.size + 1, w.heap.size] e6 W ∧ W.heap[e2.heap.size + 1]? = some (.cells #[.int .i64 1, .int .i64 0, .slice none 0 0, .int .i64 b.kind, .string bt, .float .f64 bm, .slice ba bl bc, .complex .f64 br bi, .complex .f64 (placeOf s fr).1 (placeOf s fr).2] 52 (0, 0)) ∧ W.heap[w.heap.size]? = some (.cells #[.int .i64 1, .int .i64 0, .slice none 0 0, .int .i64 b.kind, .string bt, .float .f64 bm, .slice ba bl bc, .complex .f64 br bi, .complex .f64 (placeOf s fr).1 (placeOf s fr).2] 52 (0, 0))) ⟨(by with_reducible repeat (first | exact k0 _ _ | refine kA ?_ _ | refine kD ?_ | refine kS ?_ (by simp) | refine kM ?_ (by simp))), (by simp only [hS, hA, hD, hM, reduceIte, Option.map_some, Obj.put, Re6_F.out, Re6_R.out, n_F_R, n_R_F, Nat.ne_of_lt l_F, Nat.ne_of_gt l_F, Nat.ne_of_lt l_R, Nat.ne_of_gt l_R] <;> rfl), (by simp only [hS, hA, hD, hM, reduceIte, Option.map_some, Obj.put, Re6_F.out, Re6_R.out, n_F_R, n_R_F, Nat.ne_of_lt l_F, Nat.ne_of_gt l_F, Nat.ne_of_lt l_R, Nat.ne_of_gt l_R] <;> rfl)⟩ (fun w7 hW => ?_) rfl (fun w7 hW => ?_)
 ·obtain ⟨Kw7, cw7_F, cw7_R⟩ := hW
  have q0 := cell_of_heap cw7_R 0
  have q1 := cell_of_heap cw7_R 1
  have q2 := cell_of_heap cw7_R 2
  have q3 := cell_of_heap cw7_R 3
  have q4 := cell_of_heap cw7_R 4
  have q5 := cell_of_heap cw7_R 5
  have q6 := cell_of_heap cw7_R 6
  have q7 := cell_of_heap cw7_R 7
  have q8 := cell_of_heap cw7_R 8
  simp at q0 q1 q2 q3 q4 q5 q6 q7 q8
  simp [results, Tryz.results66, go_sem, q0, q1, q2, q3, q4, q5, q6, q7, q8]
 ·obtain ⟨Kw7, cw7_F, cw7_R⟩ := hW
  have Rw7_T := zh (Kw7.at Re6_T.out (by simp [n_T_F, n_T_R]))
  have Rw7_A := zh (Kw7.at Re6_A.out (by simp [n_A_F, n_A_R]))
  have Rw7_C := zh (Kw7.at Re6_C.out (by simp [n_C_F, n_C_R]))
  have HKw7 := zh (HKe6.out.trans Kw7 (by simp [o_F, o_R]))
  have HPw7 := zh (HPne6.out.keepN Kw7 (by simp [n_p_F, n_p_R]) (by simp [g_F, g_R]))
  have bw7 := zh (be6.out.kp Kw7 (by simp [ns_b_F, ns_b_R]))
  have us_bw7 := Nat.le_trans (Nat.le_refl e6.heap.size) Kw7.size
  have Rw7_F := zh cw7_F
  have Rw7_R := zh cw7_R
  clear Kw7 cw7_F cw7_R l_p l_R xR_0 xR_1 xR_2 xR_3 xR_4 xR_5 xR_6 xR_7 xR_8 yR_0 yR_1 yR_2 yR_3 yR_4 yR_5 yR_6 yR_7 yR_8 l_T l_F xF_0 xF_1 xF_2 xF_3 xF_4 xF_5 xF_6 xF_7 xF_8 yF_0 yF_1 yF_2 yF_3 yF_4 yF_5 yF_6 yF_7 yF_8 l_A l_C Re6_T Re6_A Re6_C HKe6 HPne6 be6 Re6_F Re6_R
  exact ⟨_, rfl, ⟨_, _, _, _, _, _, _, rfl, .nil, bw7.out.to dn_b⟩, HPw7.out, HKw7.out⟩

theorem rule_always {s : ByteArray} {p : Nat} {st : PSt} {st3 : PSt} {b : Node} {kd : Int} {tx : ByteArray} {nm fr te : Nat} (ht : nextF s st.pos true = some ⟨kd, tx, nm, fr, te⟩) (hn_BEGIN : notF s st ⟨#[66, 69, 71, 73, 78]⟩ = some ()) (hn_END : notF s st ⟨#[69, 78, 68]⟩ = some ()) (hn_GAP : notF s st ⟨#[71, 65, 80]⟩ = some ()) (hn_EVERY : notF s st ⟨#[69, 86, 69, 82, 89]⟩ = some ()) (hc : isF s st ⟨#[123]⟩ = some true) (hb : Hands s p st st3 b 107) (w : World) (h : PP s p st w) :
  Calls Tryz.prog 66 #[.pointer (some ⟨p, 0, none⟩)] w fun r w' => ∃ v, r = .returned (.tuple #[v, .bool true]) ∧ RuleV w' (fun g => w.heap.size ≤ g) ⟨5, 0, [], b, (placeOf s fr).1, (placeOf s fr).2⟩ v ∧ PP s p st3 w' ∧ Keeps [p] w w' := by
 have g_p := h.p
 have HP0 := zh h; have HK0 := zh (Keeps.refl [p] w); have HT := zh ht; have HN_BEGIN := zh (take_not hn_BEGIN); have HN_END := zh (take_not hn_END); have HN_GAP := zh (take_not hn_GAP); have HN_EVERY := zh (take_not hn_EVERY); have HB := zh hc; have HBL := zh hb
 clear h ht hn_BEGIN hn_END hn_GAP hn_EVERY hc hb
 go_enter Tryz.func66, Tryz.ntmps66
 have l_p := h_lt HP0.out.row
 go_wp2_with fail
 refine calls_at (fun W => Keeps [] w W ∧ W.heap[w.heap.size]? = some (.cells #[.int .i64 0, .int .i64 0, .slice none 0 0, .int .i64 0, .string ⟨#[]⟩, .float .f64 0, .slice none 0 0, .complex .f64 0 0, .complex .f64 0 0] 52 (0, 0))) ⟨(by with_reducible repeat (first | exact k0 _ _ | refine kA ?_ _ | refine kD ?_ | refine kS ?_ (by simp) | refine kM ?_ (by simp))), (by simp only [hS, hA, hD, hM, World.size_setCell, World.size_drew, reduceIte, Option.map_some, Obj.put] <;> rfl)⟩ ?_
 rintro w1 ⟨Kw1, cw1_R⟩
 have ⟨n_p_R, n_R_p⟩ := zne l_p
 have o_R : w.heap.size ≤ w.heap.size := Nat.le_refl _
 have g_R : 14 < w.heap.size := Nat.lt_trans g_p l_p
 have HKw1 := zh (HK0.out.trans Kw1 (by simp))
 have HPw1 := zh (HP0.out.keep Kw1)
 have Rw1_R := zh cw1_R
 clear Kw1 cw1_R l_p HK0 HP0
 refine (here_any HPw1.out HT.out).mono ?_
 rintro r e2 ⟨rfl, hk⟩
 have Re2_R := zh (hk.at Rw1_R.out (by simp))
 have HKe2 := zh (HKw1.out.trans hk (by simp))
 have HPe2 := zh (HPw1.out.keep hk)
 clear hk Rw1_R HKw1 HPw1
 have l_p := h_lt HPe2.out.row
 have l_p_1 : p < e2.heap.size + 1 := Nat.lt_add_right 1 l_p
 have l_p_2 : p < e2.heap.size + 2 := Nat.lt_add_right 2 l_p
 have l_p_3 : p < e2.heap.size + 3 := Nat.lt_add_right 3 l_p
 have l_R := h_lt Re2_R.out
 have l_R_1 : w.heap.size < e2.heap.size + 1 := Nat.lt_add_right 1 l_R
 have l_R_2 : w.heap.size < e2.heap.size + 2 := Nat.lt_add_right 2 l_R
 have l_R_3 : w.heap.size < e2.heap.size + 3 := Nat.lt_add_right 3 l_R
 go_wp2_with fail
 refine wp_at (fun W => Keeps [] e2 W ∧ W.heap[e2.heap.size]? = some (.cells #[.int .i64 kd, .string tx, .float .f64 nm, .int .i64 fr, .int .i64 te] 90 (0, 0)) ∧ W.heap[e2.heap.size + 1]? = some (.cells #[.int .i64 0, .int .i64 0, .slice none 0 0, .int .i64 0, .string ⟨#[]⟩, .float .f64 0, .slice none 0 0, .complex .f64 0 0, .complex .f64 (placeOf s fr).1 (placeOf s fr).2] 52 (0, 0)) ∧ W.heap[e2.heap.size + 2]? = some (.cells #[.string ⟨#[66, 69, 71, 73, 78]⟩, .string ⟨#[69, 78, 68]⟩, .string ⟨#[71, 65, 80]⟩] 124 (0, 0)) ∧ W.heap[e2.heap.size + 3]? = some (.cells #[.int .i64 1, .int .i64 2, .int .i64 4] 168 (0, 0))) ⟨(by with_reducible repeat (first | exact k0 _ _ | refine kA ?_ _ | refine kD ?_ | refine kS ?_ (by simp) | refine kM ?_ (by simp))), (by simp only [hS, hA, hD, hM, World.size_alloc, World.size_setCell, World.size_drew, size_mset, Nat.add_right_cancel_iff, Nat.left_eq_add, Nat.add_eq_left, Nat.reduceEqDiff, Nat.add_assoc, Nat.reduceAdd, Nat.one_ne_zero, Nat.zero_ne_one, reduceIte, Option.map_some, Obj.put] <;> rfl), (by simp only [hS, hA, hD, hM, World.size_alloc, World.size_setCell, World.size_drew, size_mset, Nat.add_right_cancel_iff, Nat.left_eq_add, Nat.add_eq_left, Nat.reduceEqDiff, Nat.add_assoc, Nat.reduceAdd, Nat.one_ne_zero, Nat.zero_ne_one, reduceIte, Option.map_some, Obj.put] <;> rfl), (by simp only [hS, hA, hD, hM, World.size_alloc, World.size_setCell, World.size_drew, size_mset, Nat.add_right_cancel_iff, Nat.left_eq_add, Nat.add_eq_left, Nat.reduceEqDiff, Nat.add_assoc, Nat.reduceAdd, Nat.one_ne_zero, Nat.zero_ne_one, reduceIte, Option.map_some, Obj.put] <;> rfl), (by simp only [hS, hA, hD, hM, World.size_alloc, World.size_setCell, World.size_drew, size_mset, Nat.add_right_cancel_iff, Nat.left_eq_add, Nat.add_eq_left, Nat.reduceEqDiff, Nat.add_assoc, Nat.reduceAdd, Nat.one_ne_zero, Nat.zero_ne_one, reduceIte, Option.map_some, Obj.put] <;> rfl)⟩ ?_
 rintro w3 ⟨Kw3, cw3_T, cw3_F, cw3_A, cw3_C⟩
 have ⟨n_p_T, n_T_p⟩ := zne l_p
 have ⟨n_R_T, n_T_R⟩ := zne l_R
 have o_T : w.heap.size ≤ e2.heap.size := HKe2.out.size
 have g_T : 14 < e2.heap.size := Nat.lt_trans g_p l_p
 have ⟨n_p_F, n_F_p⟩ := zne (Nat.lt_add_right 1 l_p)
 have ⟨n_R_F, n_F_R⟩ := zne (Nat.lt_add_right 1 l_R)
 have n_T_F : e2.heap.size ≠ e2.heap.size + 1 := by simp
 have n_F_T : e2.heap.size + 1 ≠ e2.heap.size := by simp
 have o_F : w.heap.size ≤ e2.heap.size + 1 := Nat.le_trans (HKe2.out.size) (Nat.le_add_right _ 1)
 have g_F : 14 < e2.heap.size + 1 := Nat.lt_trans g_p (Nat.lt_add_right 1 l_p)
 have ⟨n_p_A, n_A_p⟩ := zne (Nat.lt_add_right 2 l_p)
 have ⟨n_R_A, n_A_R⟩ := zne (Nat.lt_add_right 2 l_R)
 have n_T_A : e2.heap.size ≠ e2.heap.size + 2 := by simp
 have n_A_T : e2.heap.size + 2 ≠ e2.heap.size := by simp
 have n_F_A : e2.heap.size + 1 ≠ e2.heap.size + 2 := by simp
 have n_A_F : e2.heap.size + 2 ≠ e2.heap.size + 1 := by simp
 have o_A : w.heap.size ≤ e2.heap.size + 2 := Nat.le_trans (HKe2.out.size) (Nat.le_add_right _ 2)
 have g_A : 14 < e2.heap.size + 2 := Nat.lt_trans g_p (Nat.lt_add_right 2 l_p)
 have ⟨n_p_C, n_C_p⟩ := zne (Nat.lt_add_right 3 l_p)
 have ⟨n_R_C, n_C_R⟩ := zne (Nat.lt_add_right 3 l_R)
 have n_T_C : e2.heap.size ≠ e2.heap.size + 3 := by simp
 have n_C_T : e2.heap.size + 3 ≠ e2.heap.size := by simp
 have n_F_C : e2.heap.size + 1 ≠ e2.heap.size + 3 := by simp
 have n_C_F : e2.heap.size + 3 ≠ e2.heap.size + 1 := by simp
 have n_A_C : e2.heap.size + 2 ≠ e2.heap.size + 3 := by simp
 have n_C_A : e2.heap.size + 3 ≠ e2.heap.size + 2 := by simp
 have o_C : w.heap.size ≤ e2.heap.size + 3 := Nat.le_trans (HKe2.out.size) (Nat.le_add_right _ 3)
 have g_C : 14 < e2.heap.size + 3 := Nat.lt_trans g_p (Nat.lt_add_right 3 l_p)
 have Rw3_R := zh (Kw3.at Re2_R.out (by simp))
 have HKw3 := zh (HKe2.out.trans Kw3 (by simp))
 have HPw3 := zh (HPe2.out.keep Kw3)
 have Rw3_T := zh cw3_T
 have Rw3_F := zh cw3_F
 have Rw3_A := zh cw3_A
 have Rw3_C := zh cw3_C
 clear Kw3 cw3_T cw3_F cw3_A cw3_C l_p l_p_1 l_p_2 l_p_3 l_R l_R_1 l_R_2 l_R_3 Re2_R HKe2 HPe2
 refine wp_loop_rounds 5 ?_
 rw [rounds_succ]
 have l_p := h_lt HPw3.out.row
 have l_R := h_lt Rw3_R.out
 have l_T := h_lt Rw3_T.out
 have l_F := h_lt Rw3_F.out
 obtain ⟨l_A, xA_0, xA_1, xA_2, yA_0, yA_1, yA_2⟩ := cf3 Rw3_A.out
 have l_C := h_lt Rw3_C.out
 go_wp2_with fail
 clear l_p l_R l_T l_F l_A xA_0 xA_1 xA_2 yA_0 yA_1 yA_2 l_C
 refine (take_any HPw3.out HN_BEGIN.out).mono ?_
 rintro r e4 ⟨rfl, hp, hk⟩
 have Re4_R := zh (hk.at Rw3_R.out (by simp [n_R_p]))
 have Re4_T := zh (hk.at Rw3_T.out (by simp [n_T_p]))
 have Re4_F := zh (hk.at Rw3_F.out (by simp [n_F_p]))
 have Re4_A := zh (hk.at Rw3_A.out (by simp [n_A_p]))
 have Re4_C := zh (hk.at Rw3_C.out (by simp [n_C_p]))
 have HKe4 := zh (HKw3.out.trans hk (by simp))
 have HPne4 := zh hp
 clear hp
 clear hk Rw3_R Rw3_T Rw3_F Rw3_A Rw3_C HKw3 HPw3
 have l_p := h_lt HPne4.out.row
 have l_R := h_lt Re4_R.out
 have l_T := h_lt Re4_T.out
 have l_F := h_lt Re4_F.out
 have l_A := h_lt Re4_A.out
 have l_C := h_lt Re4_C.out
 go_wp2_with fail
 clear l_p l_R l_T l_F l_A l_C
 rw [rounds_succ]
 have l_p := h_lt HPne4.out.row
 have l_R := h_lt Re4_R.out
 have l_T := h_lt Re4_T.out
 have l_F := h_lt Re4_F.out
 obtain ⟨l_A, xA_0, xA_1, xA_2, yA_0, yA_1, yA_2⟩ := cf3 Re4_A.out
 have l_C := h_lt Re4_C.out
 go_wp2_with fail
 clear l_p l_R l_T l_F l_A xA_0 xA_1 xA_2 yA_0 yA_1 yA_2 l_C
 refine (take_any HPne4.out HN_END.out).mono ?_
 rintro r e5 ⟨rfl, hp, hk⟩
 have Re5_R := zh (hk.at Re4_R.out (by simp [n_R_p]))
 have Re5_T := zh (hk.at Re4_T.out (by simp [n_T_p]))
 have Re5_F := zh (hk.at Re4_F.out (by simp [n_F_p]))
 have Re5_A := zh (hk.at Re4_A.out (by simp [n_A_p]))
 have Re5_C := zh (hk.at Re4_C.out (by simp [n_C_p]))
 have HKe5 := zh (HKe4.out.trans hk (by simp))
 have HPne5 := zh hp
 clear hp
 clear hk Re4_R Re4_T Re4_F Re4_A Re4_C HKe4 HPne4
 have l_p := h_lt HPne5.out.row
 have l_R := h_lt Re5_R.out
 have l_T := h_lt Re5_T.out
 have l_F := h_lt Re5_F.out
 have l_A := h_lt Re5_A.out
 have l_C := h_lt Re5_C.out
 go_wp2_with fail
 clear l_p l_R l_T l_F l_A l_C
 rw [rounds_succ]
 have l_p := h_lt HPne5.out.row
 have l_R := h_lt Re5_R.out
 have l_T := h_lt Re5_T.out
 have l_F := h_lt Re5_F.out
 obtain ⟨l_A, xA_0, xA_1, xA_2, yA_0, yA_1, yA_2⟩ := cf3 Re5_A.out
 have l_C := h_lt Re5_C.out
 go_wp2_with fail
 clear l_p l_R l_T l_F l_A xA_0 xA_1 xA_2 yA_0 yA_1 yA_2 l_C
 refine (take_any HPne5.out HN_GAP.out).mono ?_
 rintro r e6 ⟨rfl, hp, hk⟩
 have Re6_R := zh (hk.at Re5_R.out (by simp [n_R_p]))
 have Re6_T := zh (hk.at Re5_T.out (by simp [n_T_p]))
 have Re6_F := zh (hk.at Re5_F.out (by simp [n_F_p]))
 have Re6_A := zh (hk.at Re5_A.out (by simp [n_A_p]))
 have Re6_C := zh (hk.at Re5_C.out (by simp [n_C_p]))
 have HKe6 := zh (HKe5.out.trans hk (by simp))
 have HPne6 := zh hp
 clear hp
 clear hk Re5_R Re5_T Re5_F Re5_A Re5_C HKe5 HPne5
 have l_p := h_lt HPne6.out.row
 have l_R := h_lt Re6_R.out
 have l_T := h_lt Re6_T.out
 have l_F := h_lt Re6_F.out
 have l_A := h_lt Re6_A.out
 have l_C := h_lt Re6_C.out
 go_wp2_with fail
 clear l_p l_R l_T l_F l_A l_C
 rw [rounds_succ]
 have l_p := h_lt HPne6.out.row
 have l_R := h_lt Re6_R.out
 have l_T := h_lt Re6_T.out
 have l_F := h_lt Re6_F.out
 have l_A := h_lt Re6_A.out
 have l_C := h_lt Re6_C.out
 go_wp2_with fail
 clear l_p l_R l_T l_F l_A l_C
 refine (take_any HPne6.out HN_EVERY.out).mono ?_
 rintro r e7 ⟨rfl, hp, hk⟩
 have Re7_R := zh (hk.at Re6_R.out (by simp [n_R_p]))
 have Re7_T := zh (hk.at Re6_T.out (by simp [n_T_p]))
 have Re7_F := zh (hk.at Re6_F.out (by simp [n_F_p]))
 have Re7_A := zh (hk.at Re6_A.out (by simp [n_A_p]))
 have Re7_C := zh (hk.at Re6_C.out (by simp [n_C_p]))
 have HKe7 := zh (HKe6.out.trans hk (by simp))
 have HPne7 := zh hp
 clear hp
 clear hk Re6_R Re6_T Re6_F Re6_A Re6_C HKe6 HPne6
 have l_p := h_lt HPne7.out.row
 have l_R := h_lt Re7_R.out
 have l_T := h_lt Re7_T.out
 obtain ⟨l_F, xF_0, xF_1, xF_2, xF_3, xF_4, xF_5, xF_6, xF_7, xF_8, yF_0, yF_1, yF_2, yF_3, yF_4, yF_5, yF_6, yF_7, yF_8⟩ := cf9 Re7_F.out
 have l_A := h_lt Re7_A.out
 have l_C := h_lt Re7_C.out
 go_wp2_with fail
 refine calls_at (fun W => Keeps [e2.heap.size + 1] e7 W ∧ W.heap[e2.heap.size + 1]? = some (.cells #[.int .i64 5, .int .i64 0, .slice none 0 0, .int .i64 0, .string ⟨#[]⟩, .float .f64 0, .slice none 0 0, .complex .f64 0 0, .complex .f64 (placeOf s fr).1 (placeOf s fr).2] 52 (0, 0))) ⟨(by with_reducible repeat (first | exact k0 _ _ | refine kA ?_ _ | refine kD ?_ | refine kS ?_ (by simp) | refine kM ?_ (by simp))), (by simp only [hS, hA, hD, hM, reduceIte, Option.map_some, Obj.put, Re7_F.out, Nat.ne_of_lt l_F, Nat.ne_of_gt l_F] <;> rfl)⟩ ?_
 rintro w8 ⟨Kw8, cw8_F⟩
 have Rw8_R := zh (Kw8.at Re7_R.out (by simp [n_R_F]))
 have Rw8_T := zh (Kw8.at Re7_T.out (by simp [n_T_F]))
 have Rw8_A := zh (Kw8.at Re7_A.out (by simp [n_A_F]))
 have Rw8_C := zh (Kw8.at Re7_C.out (by simp [n_C_F]))
 have HKw8 := zh (HKe7.out.trans Kw8 (by simp [o_F]))
 have HPw8 := zh (HPne7.out.keepN Kw8 (by simp [n_p_F]) (by simp [g_F]))
 have Rw8_F := zh cw8_F
 clear Kw8 cw8_F l_p l_R l_T l_F xF_0 xF_1 xF_2 xF_3 xF_4 xF_5 xF_6 xF_7 xF_8 yF_0 yF_1 yF_2 yF_3 yF_4 yF_5 yF_6 yF_7 yF_8 l_A l_C Re7_R Re7_T Re7_A Re7_C HKe7 HPne7 Re7_F
 refine (isF_any HPw8.out HB.out).mono ?_
 rintro r e9 ⟨rfl, hk⟩
 have Re9_R := zh (hk.at Rw8_R.out (by simp))
 have Re9_T := zh (hk.at Rw8_T.out (by simp))
 have Re9_F := zh (hk.at Rw8_F.out (by simp))
 have Re9_A := zh (hk.at Rw8_A.out (by simp))
 have Re9_C := zh (hk.at Rw8_C.out (by simp))
 have HKe9 := zh (HKw8.out.trans hk (by simp))
 have HPe9 := zh (HPw8.out.keep hk)
 clear hk Rw8_R Rw8_T Rw8_F Rw8_A Rw8_C HKw8 HPw8
 have l_p := h_lt HPe9.out.row
 have l_R := h_lt Re9_R.out
 have l_T := h_lt Re9_T.out
 have l_F := h_lt Re9_F.out
 have l_A := h_lt Re9_A.out
 have l_C := h_lt Re9_C.out
 go_wp2_with fail
 clear l_p l_R l_T l_F l_A l_C
 refine (HBL.out _ HPe9.out).mono ?_
 rintro r e10 ⟨v, rfl, hn, hp, hk⟩
 have Re10_R := zh (hk.at Re9_R.out (by simp [n_R_p]))
 have Re10_T := zh (hk.at Re9_T.out (by simp [n_T_p]))
 have Re10_F := zh (hk.at Re9_F.out (by simp [n_F_p]))
 have Re10_A := zh (hk.at Re9_A.out (by simp [n_A_p]))
 have Re10_C := zh (hk.at Re9_C.out (by simp [n_C_p]))
 have HKe10 := zh (HKe9.out.trans hk (by simp))
 have HPne10 := zh hp
 have be10 := zh hn.seg
 have o_b : w.heap.size ≤ e9.heap.size := HKe9.out.size
 have ns_b_p : ¬ (Seg e9.heap.size e10.heap.size) (p) := fun h => Nat.not_lt_of_le h.1 (h_lt HPe9.out.row)
 have ns_b_R : ¬ (Seg e9.heap.size e10.heap.size) (w.heap.size) := fun h => Nat.not_lt_of_le h.1 (h_lt Re9_R.out)
 have ns_b_T : ¬ (Seg e9.heap.size e10.heap.size) (e2.heap.size) := fun h => Nat.not_lt_of_le h.1 (h_lt Re9_T.out)
 have ns_b_F : ¬ (Seg e9.heap.size e10.heap.size) (e2.heap.size + 1) := fun h => Nat.not_lt_of_le h.1 (h_lt Re9_F.out)
 have ns_b_A : ¬ (Seg e9.heap.size e10.heap.size) (e2.heap.size + 2) := fun h => Nat.not_lt_of_le h.1 (h_lt Re9_A.out)
 have ns_b_C : ¬ (Seg e9.heap.size e10.heap.size) (e2.heap.size + 3) := fun h => Nat.not_lt_of_le h.1 (h_lt Re9_C.out)
 have up_b : ∀ g, (Seg e9.heap.size e10.heap.size) g → g < e10.heap.size := fun _ h => h.2
 have dn_b : ∀ g, (Seg e9.heap.size e10.heap.size) g → w.heap.size ≤ g := fun _ h => Nat.le_trans o_b h.1
 obtain ⟨bt, bm, ba, bl, bc, br, bi, rfl, -, -⟩ := hn.shape
 clear hn hp
 clear hk Re9_R Re9_T Re9_F Re9_A Re9_C HKe9 HPe9
 have l_p := h_lt HPne10.out.row
 obtain ⟨l_R, xR_0, xR_1, xR_2, xR_3, xR_4, xR_5, xR_6, xR_7, xR_8, yR_0, yR_1, yR_2, yR_3, yR_4, yR_5, yR_6, yR_7, yR_8⟩ := cf9 Re10_R.out
 have l_T := h_lt Re10_T.out
 obtain ⟨l_F, xF_0, xF_1, xF_2, xF_3, xF_4, xF_5, xF_6, xF_7, xF_8, yF_0, yF_1, yF_2, yF_3, yF_4, yF_5, yF_6, yF_7, yF_8⟩ := cf9 Re10_F.out
 have l_A := h_lt Re10_A.out
 have l_C := h_lt Re10_C.out
 go_wp2_with fail
 refine ret_at (v := .tuple #[.agg #[.int .i64 5, .int .i64 0, .slice none 0 0, .int .i64 b.kind, .string bt, .float .f64 bm, .slice ba bl bc, .complex .f64 br bi, .complex .f64 (placeOf s fr).1 (placeOf s fr).2], .bool true]) (fun W => Keeps [e2.heap.size + 1, w.heap.size] e10 W ∧ W.heap[e2.heap.size + 1]? = some (.cells #[.int .i64 5, .int .i64 0, .slice none 0 0, .int .i64 b.kind, .string bt, .float .f64 bm, .slice ba bl bc, .complex .f64 br bi, .complex .f64 (placeOf s fr).1 (placeOf s fr).2] 52 (0, 0)) ∧ W.heap[w.heap.size]? = some (.cells #[.int .i64 5, .int .i64 0, .slice none 0 0, .int .i64 b.kind, .string bt, .float .f64 bm, .slice ba bl bc, .complex .f64 br bi, .complex .f64 (placeOf s fr).1 (placeOf s fr).2] 52 (0, 0))) ⟨(by with_reducible repeat (first | exact k0 _ _ | refine kA ?_ _ | refine kD ?_ | refine kS ?_ (by simp) | refine kM ?_ (by simp))), (by simp only [hS, hA, hD, hM, reduceIte, Option.map_some, Obj.put, Re10_F.out, Re10_R.out, n_F_R, n_R_F, Nat.ne_of_lt l_F, Nat.ne_of_gt l_F, Nat.ne_of_lt l_R, Nat.ne_of_gt l_R] <;> rfl), (by simp only [hS, hA, hD, hM, reduceIte, Option.map_some, Obj.put, Re10_F.out, Re10_R.out, n_F_R, n_R_F, Nat.ne_of_lt l_F, Nat.ne_of_gt l_F, Nat.ne_of_lt l_R, Nat.ne_of_gt l_R] <;> rfl)⟩ (fun w11 hW => ?_) rfl (fun w11 hW => ?_)
 ·obtain ⟨Kw11, cw11_F, cw11_R⟩ := hW
  have q0 := cell_of_heap cw11_R 0
  have q1 := cell_of_heap cw11_R 1
  have q2 := cell_of_heap cw11_R 2
  have q3 := cell_of_heap cw11_R 3
  have q4 := cell_of_heap cw11_R 4
  have q5 := cell_of_heap cw11_R 5
  have q6 := cell_of_heap cw11_R 6
  have q7 := cell_of_heap cw11_R 7
  have q8 := cell_of_heap cw11_R 8
  simp at q0 q1 q2 q3 q4 q5 q6 q7 q8
  simp [results, Tryz.results66, go_sem, q0, q1, q2, q3, q4, q5, q6, q7, q8]
 ·obtain ⟨Kw11, cw11_F, cw11_R⟩ := hW
  have Rw11_T := zh (Kw11.at Re10_T.out (by simp [n_T_F, n_T_R]))
  have Rw11_A := zh (Kw11.at Re10_A.out (by simp [n_A_F, n_A_R]))
  have Rw11_C := zh (Kw11.at Re10_C.out (by simp [n_C_F, n_C_R]))
  have HKw11 := zh (HKe10.out.trans Kw11 (by simp [o_F, o_R]))
  have HPw11 := zh (HPne10.out.keepN Kw11 (by simp [n_p_F, n_p_R]) (by simp [g_F, g_R]))
  have bw11 := zh (be10.out.kp Kw11 (by simp [ns_b_F, ns_b_R]))
  have us_bw11 := Nat.le_trans (Nat.le_refl e10.heap.size) Kw11.size
  have Rw11_F := zh cw11_F
  have Rw11_R := zh cw11_R
  clear Kw11 cw11_F cw11_R l_p l_R xR_0 xR_1 xR_2 xR_3 xR_4 xR_5 xR_6 xR_7 xR_8 yR_0 yR_1 yR_2 yR_3 yR_4 yR_5 yR_6 yR_7 yR_8 l_T l_F xF_0 xF_1 xF_2 xF_3 xF_4 xF_5 xF_6 xF_7 xF_8 yF_0 yF_1 yF_2 yF_3 yF_4 yF_5 yF_6 yF_7 yF_8 l_A l_C Re10_T Re10_A Re10_C HKe10 HPne10 be10 Re10_F Re10_R
  exact ⟨_, rfl, ⟨_, _, _, _, _, _, _, rfl, .nil, bw11.out.to dn_b⟩, HPw11.out, HKw11.out⟩
end Go.Proofs.YtkfillfkbhbbjaaGreatDoor
namespace Go.Proofs.YtkfillfkbhbbjaaGreatDoor
open Go.RowKit

theorem FuncV.shape {w : World} {S : Nat → Prop} {f : FuncP} {v : Value} (h : FuncV w S f v) : ∃ pa pc bt bm ba bl bc br bi, v = .agg #[.string f.name, .slice pa f.params.length pc, .int .i64 f.body.kind, .string bt, .float .f64 bm, .slice ba bl bc, .complex .f64 br bi, .complex .f64 f.re f.im] := by
 obtain ⟨pa, pc, b0, b1, b2, b3, b4, rfl, hp, hn⟩ := h
 obtain ⟨bt, bm, ba, bl, bc, br, bi, hv, -, -⟩ := hn.shape
 simp at hv
 obtain ⟨rfl, rfl, rfl, rfl, rfl⟩ := hv
 exact ⟨_, _, _, _, _, _, _, _, _, rfl⟩
theorem RuleV.shape {w : World} {S : Nat → Prop} {f : RuleP} {v : Value} (h : RuleV w S f v) : ∃ pa pc bt bm ba bl bc br bi, v = .agg #[.int .i64 f.kind, .int .i64 f.n, .slice pa f.pats.length pc, .int .i64 f.body.kind, .string bt, .float .f64 bm, .slice ba bl bc, .complex .f64 br bi, .complex .f64 f.re f.im] := by
 obtain ⟨pa, pc, b0, b1, b2, b3, b4, rfl, hp, hn⟩ := h
 obtain ⟨bt, bm, ba, bl, bc, br, bi, hv, -, -⟩ := hn.shape
 simp at hv
 obtain ⟨rfl, rfl, rfl, rfl, rfl⟩ := hv
 exact ⟨_, _, _, _, _, _, _, _, _, rfl⟩
theorem funcE_of {w : World} {S : Nat → Prop} {f : FuncP} {c0 c1 c2 c3 c4 c5 c6 c7 : Value} (h : FuncV w S f (.agg #[c0, c1, c2, c3, c4, c5, c6, c7])) : FuncE w S f [c0, c1, c2, c3, c4, c5, c6, c7] := by
 obtain ⟨pa, pc, b0, b1, b2, b3, b4, hv, hp, hn⟩ := h
 simp at hv
 obtain ⟨rfl, rfl, rfl, rfl, rfl, rfl, rfl, rfl⟩ := hv
 exact ⟨_, _, _, _, _, _, _, rfl, hp, hn⟩
theorem ruleE_of {w : World} {S : Nat → Prop} {f : RuleP} {c0 c1 c2 c3 c4 c5 c6 c7 c8 : Value} (h : RuleV w S f (.agg #[c0, c1, c2, c3, c4, c5, c6, c7, c8])) : RuleE w S f [c0, c1, c2, c3, c4, c5, c6, c7, c8] := by
 obtain ⟨pa, pc, b0, b1, b2, b3, b4, hv, hp, hn⟩ := h
 simp at hv
 obtain ⟨rfl, rfl, rfl, rfl, rfl, rfl, rfl, rfl, rfl⟩ := hv
 exact ⟨_, _, _, _, _, _, _, rfl, hp, hn⟩
theorem info61 : ∃ i, Tryz.prog.info? 61 = some i ∧ i.zero = some (.agg #[.string ⟨#[]⟩, .slice none 0 0, .int .i64 0, .string ⟨#[]⟩, .float .f64 0, .slice none 0 0, .complex .f64 0 0, .complex .f64 0 0]) ∧ i.size = 8 ∧ i.bytes = 128 := by
 have h : (Tryz.prog.info? 61).map (fun i => (i.zero, i.size, i.bytes)) = some (some (.agg #[.string ⟨#[]⟩, .slice none 0 0, .int .i64 0, .string ⟨#[]⟩, .float .f64 0, .slice none 0 0, .complex .f64 0 0, .complex .f64 0 0]), 8, 128) := by kernel_rfl
 cases hi : Tryz.prog.info? 61 with
 | none => rw [hi] at h; cases h
 | some i => rw [hi] at h; simp at h; exact ⟨i, rfl, h.1, h.2.1, h.2.2⟩
theorem info52 : ∃ i, Tryz.prog.info? 52 = some i ∧ i.zero = some (.agg #[.int .i64 0, .int .i64 0, .slice none 0 0, .int .i64 0, .string ⟨#[]⟩, .float .f64 0, .slice none 0 0, .complex .f64 0 0, .complex .f64 0 0]) ∧ i.size = 9 ∧ i.bytes = 128 := by
 have h : (Tryz.prog.info? 52).map (fun i => (i.zero, i.size, i.bytes)) = some (some (.agg #[.int .i64 0, .int .i64 0, .slice none 0 0, .int .i64 0, .string ⟨#[]⟩, .float .f64 0, .slice none 0 0, .complex .f64 0 0, .complex .f64 0 0]), 9, 128) := by kernel_rfl
 cases hi : Tryz.prog.info? 52 with
 | none => rw [hi] at h; cases h
 | some i => rw [hi] at h; simp at h; exact ⟨i, rfl, h.1, h.2.1, h.2.2⟩

/-- append of one element, as a step of a region that draws. -/
theorem step_appL {P : Program} {α : Type} {E : World → (Nat → Prop) → α → List Value → Prop} {e : TypeId} {size : Nat} (hE : ElemL E size) {ops : Array Oper} {o : Oper} {a : Act} {w : World} {K : Act → World → Prop} {Q : Exit → Act → World → Prop} {Z : Prop} (hgd : o.guard = none) (s y : Operand) (t : TypeId)
  (ho : o.op = .call { callee := .builtin .append, args := #[s, y], argTypes := #[t, t] }) {i : TypeInfo} {z : Value} {bytes : Nat} (hu : P.underlying t = some (.slice e)) (hi : P.info? e = some i) (hz : i.zero = some z)
  (hsize : i.size = size) (hby : i.bytes = bytes) (hzs : z.cells.size = size) (hsz : 0 < size) (hbb : bytes ≤ 1000)
  {b G cap : Nat} {T S : Nat → Prop} {l : List α} {x : α} {v : Value} {c : List Value} (hs : a.eval s = v) (hy : a.eval y = .slice (some ⟨G, 0, none⟩) 1 cap) (hO : OwnL E e size w b T l v)
  (hG : w.heap[G]? = some (.cells c.toArray e (0, 0))) (hm : E w S x c) (hd : ∀ g, S g → ¬ T g) (hS : ∀ g, S g → g < w.heap.size) (hT : ∀ g, T g → g < w.heap.size) (hb : b ≤ w.heap.size) (hl : l.length ≤ 100000)
  (h : ∀ v' w' fl, (∀ x ∈ fl, T x) → Keeps fl w w' → OwnL E e size w' b (fun g => T g ∨ S g ∨ (w.heap.size ≤ g ∧ g < w'.heap.size)) (l ++ [x]) v' → K (a.put o.dst v') w') :
  if Region.wanted o (yielded ops a.tmps) = true then Oper.wp P o a w K Q else Z := by
 obtain ⟨xs, hown, ht, hx⟩ := hO
 have hlen := hE.len hm
 refine step_append_lies w hgd s y t ho b e i z size bytes hu hi hz hsize hby hzs hsz v l.length xs hs hown ⟨G, 0, none⟩ 1 cap c hy (by simp [hlen]) (fun j u hj => ?_) (hE.one hm) (by omega) (by simp [maxLen]; omega) ?_ hb _ rfl fun g cp w1 h1 h2 h3 h4 => ?_
 ·have := cell_of_heap hG j
  have e1 : (⟨G, 0, none⟩ : Addr).add j = ⟨G, j, none⟩ := by simp [Addr.add]; intro h; rw [h]
  rw [e1, this]; simpa using hj
 ·exact Nat.le_trans (Nat.mul_le_mul (show l.length + 1 ≤ 100001 by omega) hbb) (by decide)
 ·obtain ⟨q1, fl, q2, q3⟩ := own_grown hE hown ht hx hm hd hS hT h1 h2 h3 h4
  exact h _ _ fl q2 q3 q1

/-- The program so far, in block gb. -/
def ProgI (s : ByteArray) (p gb : Nat) (w : World) (rs : List RuleP) (fs : List FuncP) (st : PSt) (W : World) : Prop :=
 ∃ (v1 v2 : Value) (T1 T2 : Nat → Prop) (U : Nat), OwnL RuleE 52 9 W w.heap.size T1 rs v1 ∧ OwnL FuncE 61 8 W w.heap.size T2 fs v2 ∧ (∀ x, T1 x → x < U) ∧ (∀ x, T2 x → x < U) ∧ U ≤ W.heap.size ∧ (∀ x, T1 x → w.heap.size ≤ x) ∧ (∀ x, T2 x → w.heap.size ≤ x) ∧
  (∀ x, T1 x → ¬ T2 x) ∧ ¬ T1 p ∧ ¬ T2 p ∧ ¬ T1 gb ∧ ¬ T2 gb ∧ p ≠ gb ∧ w.heap.size ≤ p ∧ w.heap.size ≤ gb ∧ PP s p st W ∧ Keeps [] w W ∧ W.heap[gb]? = some (.cells #[v1, v2] 33 (0, 0))

theorem item_f {s : ByteArray} {p gb : Nat} {w wi : World} {st st2 : PSt} {rs : List RuleP} {fs : List FuncP} {f : FuncP} (hb : isF s st ⟨#[102, 117, 110, 99, 116, 105, 111, 110]⟩ = some true) (hc : ∀ w, PP s p st w → Calls Tryz.prog 65 #[.pointer (some ⟨p, 0, none⟩)] w fun r w' => ∃ v, r = .returned v ∧ FuncV w' (fun g => w.heap.size ≤ g) f v ∧ PP s p st2 w' ∧ Keeps [p] w w') (hlen : fs.length ≤ 1000) (g_0 : 14 < w.heap.size) (hi : ProgI s p gb w rs fs st wi) :
  Calls Tryz.prog 37 #[.pointer (some ⟨p, 0, none⟩), .pointer (some ⟨gb, 0, none⟩)] wi fun r w' => r = .returned (.tuple #[]) ∧ ProgI s p gb w rs (fs ++ [f]) st2 w' := by
 obtain ⟨v1, v2, T1, T2, U, h1, h2, up_x, up_y, us_x, dn_x, dn_y, dj_x_y, ns_x_p, ns_y_p, ns_x_g, ns_y_g, n_p_g, o_p, o_g, hp, hk, hg⟩ := hi
 have us_y := us_x
 have dj_y_x : ∀ x, T2 x → ¬ T1 x := fun x h h' => dj_x_y x h' h
 have n_g_p := Ne.symm n_p_g
 obtain ⟨a1, c1, rfl, -⟩ := h1.slice
 obtain ⟨a2, c2, rfl, -⟩ := h2.slice
 have g_p := hp.p
 have g_g : 14 < gb := Nat.lt_of_lt_of_le g_0 o_g
 have HX1 := zh h1; have HY1 := zh h2; have HPi := zh hp; have HKi := zh hk; have Rg := zh hg; have HB := zh hb; have HC := zh hc
 clear h1 h2 hp hk hg hb hc
 go_enter Tryz.func37, Tryz.ntmps37
 have l_p := h_lt HPi.out.row
 have l_g := h_lt Rg.out
 go_wp2_with fail
 clear l_p l_g
 refine (isF_any HPi.out HB.out).mono ?_
 rintro r e1 ⟨rfl, hk⟩
 have Re1_g := zh (hk.at Rg.out (by simp))
 have HKe1 := zh (HKi.out.trans hk (by simp))
 have HPe1 := zh (HPi.out.keep hk)
 have xe1 := zh (OwnL.kp ruleL HX1.out hk (by simp))
 have us_xe1 := Nat.le_trans us_x hk.size
 have ye1 := zh (OwnL.kp funcL HY1.out hk (by simp))
 have us_ye1 := Nat.le_trans us_y hk.size
 clear hk Rg HKi HPi HX1 us_x HY1 us_y
 have l_p := h_lt HPe1.out.row
 have l_g := h_lt Re1_g.out
 go_wp2_with fail
 clear l_p l_g
 refine (HC.out _ HPe1.out).mono ?_
 rintro r e2 ⟨v, rfl, hn, hp, hk⟩
 have Re2_g := zh (hk.at Re1_g.out (by simp [n_g_p]))
 have HKe2 := zh (HKe1.out.trans hk (by simp [o_p]))
 have xe2 := zh (OwnL.kp ruleL xe1.out hk (by simp [ns_x_p]))
 have us_xe2 := Nat.le_trans us_xe1 hk.size
 have ye2 := zh (OwnL.kp funcL ye1.out hk (by simp [ns_y_p]))
 have us_ye2 := Nat.le_trans us_ye1 hk.size
 have HPne2 := zh hp
 have fe2 := zh hn.seg
 have o_f : w.heap.size ≤ e1.heap.size := HKe1.out.size
 have ns_f_p : ¬ (Seg e1.heap.size e2.heap.size) (p) := fun h => Nat.not_lt_of_le h.1 (h_lt HPe1.out.row)
 have ns_f_g : ¬ (Seg e1.heap.size e2.heap.size) (gb) := fun h => Nat.not_lt_of_le h.1 (h_lt Re1_g.out)
 have up_f : ∀ g, (Seg e1.heap.size e2.heap.size) g → g < e2.heap.size := fun _ h => h.2
 have dn_f : ∀ g, (Seg e1.heap.size e2.heap.size) g → w.heap.size ≤ g := fun _ h => Nat.le_trans o_f h.1
 have us_x_f := us_xe1
 have us_y_f := us_ye1
 obtain ⟨pa, pc, bt, bm, ba, bl, bc, br, bi, rfl⟩ := hn.shape
 clear hn hp
 clear hk Re1_g HKe1 xe1 us_xe1 ye1 us_ye1 HPe1
 have l_p := h_lt HPne2.out.row
 have l_g := h_lt Re2_g.out
 obtain ⟨i1, hi1, hi2, hi3, hi4⟩ := info61
 have HI := zh (And.intro hi1 (And.intro hi2 (And.intro hi3 hi4)))
 clear hi1 hi2 hi3 hi4
 go_upto_region 2 with fail
 refine wp_at (fun W => Keeps [] e2 W ∧ W.heap[e2.heap.size]? = some (.cells #[.string f.name, .slice pa f.params.length pc, .int .i64 f.body.kind, .string bt, .float .f64 bm, .slice ba bl bc, .complex .f64 br bi, .complex .f64 f.re f.im] 61 (0, 0))) ⟨(by with_reducible repeat (first | exact k0 _ _ | refine kA ?_ _ | refine kD ?_ | refine kS ?_ (by simp) | refine kM ?_ (by simp))), (by simp only [hS, hA, hD, hM, World.size_setCell, World.size_drew, reduceIte, Option.map_some, Obj.put] <;> rfl)⟩ ?_
 rintro w3 ⟨Kw3, cw3_F⟩
 have ⟨n_p_F, n_F_p⟩ := zne l_p
 have ⟨n_g_F, n_F_g⟩ := zne l_g
 have o_F : w.heap.size ≤ e2.heap.size := HKe2.out.size
 have g_F : 14 < e2.heap.size := Nat.lt_trans g_p l_p
 have ns_x_F : ¬ (T1) (e2.heap.size) := fun h => Nat.not_lt_of_le (us_xe2) (up_x _ h)
 have ns_y_F : ¬ (T2) (e2.heap.size) := fun h => Nat.not_lt_of_le (us_ye2) (up_y _ h)
 have ns_f_F : ¬ (Seg e1.heap.size e2.heap.size) (e2.heap.size) := fun h => Nat.not_lt_of_le ((Nat.le_refl e2.heap.size)) (up_f _ h)
 have Rw3_g := zh (Kw3.at Re2_g.out (by simp))
 have HKw3 := zh (HKe2.out.trans Kw3 (by simp))
 have HPw3 := zh (HPne2.out.keep Kw3)
 have xw3 := zh (OwnL.kp ruleL xe2.out Kw3 (by simp))
 have us_xw3 := Nat.le_trans us_xe2 Kw3.size
 have yw3 := zh (OwnL.kp funcL ye2.out Kw3 (by simp))
 have us_yw3 := Nat.le_trans us_ye2 Kw3.size
 have fw3 := zh (fe2.out.kp Kw3 (by simp))
 have us_fw3 := Nat.le_trans (Nat.le_refl e2.heap.size) Kw3.size
 have Rw3_F := zh cw3_F
 clear Kw3 cw3_F l_p l_g Re2_g HKe2 HPne2 xe2 us_xe2 ye2 us_ye2 fe2
 have l_p := h_lt HPw3.out.row
 obtain ⟨l_g, xg_0, xg_1, yg_0, yg_1⟩ := cf2 Rw3_g.out
 obtain ⟨l_F, xF_0, xF_1, xF_2, xF_3, xF_4, xF_5, xF_6, xF_7, yF_0, yF_1, yF_2, yF_3, yF_4, yF_5, yF_6, yF_7⟩ := cf8 Rw3_F.out
 go_region_law (refine step_at (fun W => Keeps [] w3 W ∧ W.heap[w3.heap.size]? = some (.cells #[.string f.name, .slice pa f.params.length pc, .int .i64 f.body.kind, .string bt, .float .f64 bm, .slice ba bl bc, .complex .f64 br bi, .complex .f64 f.re f.im] 61 (0, 0))) ⟨(by with_reducible repeat (first | exact k0 _ _ | refine kA ?_ _ | refine kD ?_ | refine kS ?_ (by simp) | refine kM ?_ (by simp))), (by simp only [heap_set_if, heap_alloc_if, heap_drew, World.size_alloc, World.size_setCell, World.size_drew, reduceIte, Option.map_some, Obj.put] <;> rfl)⟩ ?_; rintro wq ⟨hkq, cG⟩; refine step_appL funcL rfl (.tmp 16) (.tmp 18) 31 rfl Tryz.underlying31 HI.out.1 HI.out.2.1 HI.out.2.2.1 HI.out.2.2.2 rfl (by decide) (by decide) rfl rfl (OwnL.kp funcL yw3.out hkq (by simp)) (c := [.string f.name, .slice pa f.params.length pc, .int .i64 f.body.kind, .string bt, .float .f64 bm, .slice ba bl bc, .complex .f64 br bi, .complex .f64 f.re f.im]) cG (funcE_of (fw3.out.kp hkq (by simp))) (fun g hs ht => Nat.not_lt_of_le hs.1 (Nat.lt_of_lt_of_le (up_y g ht) us_y_f)) (fun g hs => Nat.lt_of_lt_of_le (up_f g hs) (Nat.le_trans us_fw3 hkq.size)) (fun g ht => Nat.lt_of_lt_of_le (up_y g ht) (Nat.le_trans us_yw3 hkq.size)) (Nat.le_trans (HKw3.out.size) hkq.size) (by omega) ?_; rintro va wa fl hfl hka hown; obtain ⟨ka2, kc2, hva, -⟩ := hown.slice; obtain ⟨kn, hkn⟩ : ∃ k, k = (fs ++ [f]).length := ⟨_, rfl⟩; rw [← hkn] at hva; subst hva; have HKN := zh hkn; clear hkn; have r_g := hka.at (hkq.at Rw3_g.out (by simp)) (fun h => ns_y_g (hfl _ h)); have lw_g := h_lt r_g; have zg_0 := cell_of_heap r_g 0; have zfg_0 := frozen_of_heap r_g 0; have zg_1 := cell_of_heap r_g 1; have zfg_1 := frozen_of_heap r_g 1; simp at zg_0 zg_1)
 all_goals
  have cwq_G := cG
  clear cG
  have ⟨n_p_G, n_G_p⟩ := zne l_p
  have ⟨n_g_G, n_G_g⟩ := zne l_g
  have ⟨n_F_G, n_G_F⟩ := zne l_F
  have o_G : w.heap.size ≤ w3.heap.size := HKw3.out.size
  have g_G : 14 < w3.heap.size := Nat.lt_trans g_p l_p
  have ns_x_G : ¬ (T1) (w3.heap.size) := fun h => Nat.not_lt_of_le (us_xw3) (up_x _ h)
  have ns_y_G : ¬ (T2) (w3.heap.size) := fun h => Nat.not_lt_of_le (us_yw3) (up_y _ h)
  have ns_f_G : ¬ (Seg e1.heap.size e2.heap.size) (w3.heap.size) := fun h => Nat.not_lt_of_le (us_fw3) (up_f _ h)
  have Rwq_g := zh (hkq.at Rw3_g.out (by simp))
  have Rwq_F := zh (hkq.at Rw3_F.out (by simp))
  have HKwq := zh (HKw3.out.trans hkq (by simp))
  have HPwq := zh (HPw3.out.keep hkq)
  have xwq := zh (OwnL.kp ruleL xw3.out hkq (by simp))
  have us_xwq := Nat.le_trans us_xw3 hkq.size
  have ywq := zh (OwnL.kp funcL yw3.out hkq (by simp))
  have us_ywq := Nat.le_trans us_yw3 hkq.size
  have fwq := zh (fw3.out.kp hkq (by simp))
  have us_fwq := Nat.le_trans us_fw3 hkq.size
  have Rwq_G := zh cwq_G
  clear hkq cwq_G l_p l_g xg_0 xg_1 yg_0 yg_1 l_F xF_0 xF_1 xF_2 xF_3 xF_4 xF_5 xF_6 xF_7 yF_0 yF_1 yF_2 yF_3 yF_4 yF_5 yF_6 yF_7 Rw3_g Rw3_F HKw3 HPw3 xw3 us_xw3 yw3 us_yw3 fw3 us_fw3
  have Rwa_g := zh (hka.at Rwq_g.out (fun h => ns_y_g (hfl _ h)))
  have Rwa_F := zh (hka.at Rwq_F.out (fun h => ns_y_F (hfl _ h)))
  have Rwa_G := zh (hka.at Rwq_G.out (fun h => ns_y_G (hfl _ h)))
  have HKwa := zh (HKwq.out.trans hka (fun x h => .inr (dn_y x (hfl x h))))
  have HPwa := zh (HPwq.out.keepN hka (fun h => ns_y_p (hfl _ h)) (fun x h => Nat.lt_of_lt_of_le g_0 (dn_y x (hfl x h))))
  have xwa := zh (OwnL.kp ruleL xwq.out hka (fun x h => dj_y_x x (hfl x h)))
  have us_xwa := Nat.le_trans us_xwq hka.size
  have us_ywa := Nat.le_trans us_ywq hka.size
  have us_fwa := Nat.le_trans us_fwq hka.size
  have us_m0 := us_ywa
  have us_f0 := us_fwa
  have hpack : ∃ T3 : Nat → Prop, OwnL FuncE 61 8 wa w.heap.size T3 (fs ++ [f]) (.slice ka2 kn kc2) ∧ (∀ x, T3 x → x < wa.heap.size) ∧ (∀ x, T3 x → w.heap.size ≤ x) ∧ (∀ x, T1 x → ¬ T3 x) ∧ ¬ T3 (p) ∧ ¬ T3 (gb) ∧ ¬ T3 (e2.heap.size) :=
   ⟨_, hown, fun x h => h.elim (fun h => Nat.lt_of_lt_of_le (up_y x h) us_m0) fun h => h.elim (fun h => Nat.lt_of_lt_of_le (up_f x h) us_f0) fun h => h.2, fun x h => h.elim (dn_y x) fun h => h.elim (dn_f x) fun h => Nat.le_trans (HKwq.out.size) h.1,
    fun x ho h => h.elim (dj_x_y x ho) fun h => h.elim (fun h => Nat.not_lt_of_le h.1 (Nat.lt_of_lt_of_le (up_x x ho) us_x_f)) fun h => Nat.not_lt_of_le h.1 (Nat.lt_of_lt_of_le (up_x x ho) us_xwq), fun h => h.elim ns_y_p fun h => h.elim ns_f_p fun h => Nat.not_lt_of_le h.1 (h_lt HPwq.out.row), fun h => h.elim ns_y_g fun h => h.elim ns_f_g fun h => Nat.not_lt_of_le h.1 (h_lt Rwq_g.out), fun h => h.elim ns_y_F fun h => h.elim ns_f_F fun h => Nat.not_lt_of_le h.1 (h_lt Rwq_F.out)⟩
  obtain ⟨T3, hown2, up_k, dn_k, dj_k, ns_k_p, ns_k_g, ns_k_F⟩ := hpack
  have HL2 := zh hown2
  clear hown hown2 hka hfl xwq us_xwq us_ywq us_fwq
  have l_p := h_lt HPwa.out.row
  obtain ⟨l_g, xg_0, xg_1, yg_0, yg_1⟩ := cf2 Rwa_g.out
  have l_F := h_lt Rwa_F.out
  go_wp2_with fail
  refine ret_at (v := .tuple #[]) (fun W => Keeps [gb] wa W ∧ W.heap[gb]? = some (.cells #[.slice a1 rs.length c1, .slice ka2 kn kc2] 33 (0, 0))) ⟨(by with_reducible repeat (first | exact k0 _ _ | refine kA ?_ _ | refine kD ?_ | refine kS ?_ (by simp) | refine kM ?_ (by simp))), (by simp only [hS, hA, hD, hM, reduceIte, Option.map_some, Obj.put, Rwa_g.out, Nat.ne_of_lt l_g, Nat.ne_of_gt l_g] <;> rfl)⟩ (fun w4 hW => ?_) rfl (fun w4 hW => ?_)
  ·obtain ⟨Kw4, cw4_g⟩ := hW
   simp [results, Tryz.results37, go_sem]
  ·obtain ⟨Kw4, cw4_g⟩ := hW
   have Rw4_F := zh (Kw4.at Rwa_F.out (by simp [n_F_g]))
   have HKw4 := zh (HKwa.out.trans Kw4 (by simp [o_g]))
   have HPw4 := zh (HPwa.out.keepN Kw4 (by simp [n_p_g]) (by simp [g_g]))
   have xw4 := zh (OwnL.kp ruleL xwa.out Kw4 (by simp [ns_x_g]))
   have us_xw4 := Nat.le_trans us_xwa Kw4.size
   have us_yw4 := Nat.le_trans us_ywa Kw4.size
   have us_fw4 := Nat.le_trans us_fwa Kw4.size
   have kw4 := zh (OwnL.kp funcL HL2.out Kw4 (by simp [ns_k_g]))
   have us_kw4 := Nat.le_trans (Nat.le_refl wa.heap.size) Kw4.size
   have Rw4_g := zh cw4_g
   clear Kw4 cw4_g l_p l_g xg_0 xg_1 yg_0 yg_1 l_F Rwa_F HKwa HPwa xwa us_xwa us_ywa us_fwa HL2 Rwa_g
   have hkn := HKN.out
   subst hkn
   exact ⟨rfl, _, _, T1, T3, w4.heap.size, xw4.out, kw4.out, (fun x h => Nat.lt_of_lt_of_le (up_x x h) us_xw4), (fun x h => Nat.lt_of_lt_of_le (up_k x h) us_kw4), Nat.le_refl _, dn_x, dn_k, dj_k, ns_x_p, ns_k_p, ns_x_g, ns_k_g, n_p_g, o_p, o_g, HPw4.out, HKw4.out, Rw4_g.out⟩

theorem item_r {s : ByteArray} {p gb : Nat} {w wi : World} {st st2 : PSt} {rs : List RuleP} {fs : List FuncP} {f : RuleP} (hb : isF s st ⟨#[102, 117, 110, 99, 116, 105, 111, 110]⟩ = some false) (hc : ∀ w, PP s p st w → Calls Tryz.prog 66 #[.pointer (some ⟨p, 0, none⟩)] w fun r w' => ∃ v, r = .returned (.tuple #[v, .bool true]) ∧ RuleV w' (fun g => w.heap.size ≤ g) f v ∧ PP s p st2 w' ∧ Keeps [p] w w') (hlen : rs.length ≤ 1000) (g_0 : 14 < w.heap.size) (hi : ProgI s p gb w rs fs st wi) :
  Calls Tryz.prog 37 #[.pointer (some ⟨p, 0, none⟩), .pointer (some ⟨gb, 0, none⟩)] wi fun r w' => r = .returned (.tuple #[]) ∧ ProgI s p gb w (rs ++ [f]) fs st2 w' := by
 obtain ⟨v1, v2, T1, T2, U, h1, h2, up_x, up_y, us_x, dn_x, dn_y, dj_x_y, ns_x_p, ns_y_p, ns_x_g, ns_y_g, n_p_g, o_p, o_g, hp, hk, hg⟩ := hi
 have us_y := us_x
 have dj_y_x : ∀ x, T2 x → ¬ T1 x := fun x h h' => dj_x_y x h' h
 have n_g_p := Ne.symm n_p_g
 obtain ⟨a1, c1, rfl, -⟩ := h1.slice
 obtain ⟨a2, c2, rfl, -⟩ := h2.slice
 have g_p := hp.p
 have g_g : 14 < gb := Nat.lt_of_lt_of_le g_0 o_g
 have HX1 := zh h1; have HY1 := zh h2; have HPi := zh hp; have HKi := zh hk; have Rg := zh hg; have HB := zh hb; have HC := zh hc
 clear h1 h2 hp hk hg hb hc
 go_enter Tryz.func37, Tryz.ntmps37
 have l_p := h_lt HPi.out.row
 have l_g := h_lt Rg.out
 go_wp2_with fail
 clear l_p l_g
 refine (isF_any HPi.out HB.out).mono ?_
 rintro r e1 ⟨rfl, hk⟩
 have Re1_g := zh (hk.at Rg.out (by simp))
 have HKe1 := zh (HKi.out.trans hk (by simp))
 have HPe1 := zh (HPi.out.keep hk)
 have xe1 := zh (OwnL.kp ruleL HX1.out hk (by simp))
 have us_xe1 := Nat.le_trans us_x hk.size
 have ye1 := zh (OwnL.kp funcL HY1.out hk (by simp))
 have us_ye1 := Nat.le_trans us_y hk.size
 clear hk Rg HKi HPi HX1 us_x HY1 us_y
 have l_p := h_lt HPe1.out.row
 have l_g := h_lt Re1_g.out
 go_wp2_with fail
 clear l_p l_g
 refine (HC.out _ HPe1.out).mono ?_
 rintro r e2 ⟨v, rfl, hn, hp, hk⟩
 have Re2_g := zh (hk.at Re1_g.out (by simp [n_g_p]))
 have HKe2 := zh (HKe1.out.trans hk (by simp [o_p]))
 have xe2 := zh (OwnL.kp ruleL xe1.out hk (by simp [ns_x_p]))
 have us_xe2 := Nat.le_trans us_xe1 hk.size
 have ye2 := zh (OwnL.kp funcL ye1.out hk (by simp [ns_y_p]))
 have us_ye2 := Nat.le_trans us_ye1 hk.size
 have HPne2 := zh hp
 have fe2 := zh hn.seg
 have o_f : w.heap.size ≤ e1.heap.size := HKe1.out.size
 have ns_f_p : ¬ (Seg e1.heap.size e2.heap.size) (p) := fun h => Nat.not_lt_of_le h.1 (h_lt HPe1.out.row)
 have ns_f_g : ¬ (Seg e1.heap.size e2.heap.size) (gb) := fun h => Nat.not_lt_of_le h.1 (h_lt Re1_g.out)
 have up_f : ∀ g, (Seg e1.heap.size e2.heap.size) g → g < e2.heap.size := fun _ h => h.2
 have dn_f : ∀ g, (Seg e1.heap.size e2.heap.size) g → w.heap.size ≤ g := fun _ h => Nat.le_trans o_f h.1
 have us_x_f := us_xe1
 have us_y_f := us_ye1
 obtain ⟨pa, pc, bt, bm, ba, bl, bc, br, bi, rfl⟩ := hn.shape
 clear hn hp
 clear hk Re1_g HKe1 xe1 us_xe1 ye1 us_ye1 HPe1
 have l_p := h_lt HPne2.out.row
 have l_g := h_lt Re2_g.out
 obtain ⟨i1, hi1, hi2, hi3, hi4⟩ := info52
 have HI := zh (And.intro hi1 (And.intro hi2 (And.intro hi3 hi4)))
 clear hi1 hi2 hi3 hi4
 go_upto_region 4 with fail
 refine wp_at (fun W => Keeps [] e2 W ∧ W.heap[e2.heap.size]? = some (.cells #[.int .i64 f.kind, .int .i64 f.n, .slice pa f.pats.length pc, .int .i64 f.body.kind, .string bt, .float .f64 bm, .slice ba bl bc, .complex .f64 br bi, .complex .f64 f.re f.im] 52 (0, 0))) ⟨(by with_reducible repeat (first | exact k0 _ _ | refine kA ?_ _ | refine kD ?_ | refine kS ?_ (by simp) | refine kM ?_ (by simp))), (by simp only [hS, hA, hD, hM, World.size_setCell, World.size_drew, reduceIte, Option.map_some, Obj.put] <;> rfl)⟩ ?_
 rintro w3 ⟨Kw3, cw3_F⟩
 have ⟨n_p_F, n_F_p⟩ := zne l_p
 have ⟨n_g_F, n_F_g⟩ := zne l_g
 have o_F : w.heap.size ≤ e2.heap.size := HKe2.out.size
 have g_F : 14 < e2.heap.size := Nat.lt_trans g_p l_p
 have ns_x_F : ¬ (T1) (e2.heap.size) := fun h => Nat.not_lt_of_le (us_xe2) (up_x _ h)
 have ns_y_F : ¬ (T2) (e2.heap.size) := fun h => Nat.not_lt_of_le (us_ye2) (up_y _ h)
 have ns_f_F : ¬ (Seg e1.heap.size e2.heap.size) (e2.heap.size) := fun h => Nat.not_lt_of_le ((Nat.le_refl e2.heap.size)) (up_f _ h)
 have Rw3_g := zh (Kw3.at Re2_g.out (by simp))
 have HKw3 := zh (HKe2.out.trans Kw3 (by simp))
 have HPw3 := zh (HPne2.out.keep Kw3)
 have xw3 := zh (OwnL.kp ruleL xe2.out Kw3 (by simp))
 have us_xw3 := Nat.le_trans us_xe2 Kw3.size
 have yw3 := zh (OwnL.kp funcL ye2.out Kw3 (by simp))
 have us_yw3 := Nat.le_trans us_ye2 Kw3.size
 have fw3 := zh (fe2.out.kp Kw3 (by simp))
 have us_fw3 := Nat.le_trans (Nat.le_refl e2.heap.size) Kw3.size
 have Rw3_F := zh cw3_F
 clear Kw3 cw3_F l_p l_g Re2_g HKe2 HPne2 xe2 us_xe2 ye2 us_ye2 fe2
 have l_p := h_lt HPw3.out.row
 obtain ⟨l_g, xg_0, xg_1, yg_0, yg_1⟩ := cf2 Rw3_g.out
 obtain ⟨l_F, xF_0, xF_1, xF_2, xF_3, xF_4, xF_5, xF_6, xF_7, xF_8, yF_0, yF_1, yF_2, yF_3, yF_4, yF_5, yF_6, yF_7, yF_8⟩ := cf9 Rw3_F.out
 go_region_law (refine step_at (fun W => Keeps [] w3 W ∧ W.heap[w3.heap.size]? = some (.cells #[.int .i64 f.kind, .int .i64 f.n, .slice pa f.pats.length pc, .int .i64 f.body.kind, .string bt, .float .f64 bm, .slice ba bl bc, .complex .f64 br bi, .complex .f64 f.re f.im] 52 (0, 0))) ⟨(by with_reducible repeat (first | exact k0 _ _ | refine kA ?_ _ | refine kD ?_ | refine kS ?_ (by simp) | refine kM ?_ (by simp))), (by simp only [heap_set_if, heap_alloc_if, heap_drew, World.size_alloc, World.size_setCell, World.size_drew, reduceIte, Option.map_some, Obj.put] <;> rfl)⟩ ?_; rintro wq ⟨hkq, cG⟩; refine step_appL ruleL rfl (.tmp 31) (.tmp 33) 30 rfl Tryz.underlying30 HI.out.1 HI.out.2.1 HI.out.2.2.1 HI.out.2.2.2 rfl (by decide) (by decide) rfl rfl (OwnL.kp ruleL xw3.out hkq (by simp)) (c := [.int .i64 f.kind, .int .i64 f.n, .slice pa f.pats.length pc, .int .i64 f.body.kind, .string bt, .float .f64 bm, .slice ba bl bc, .complex .f64 br bi, .complex .f64 f.re f.im]) cG (ruleE_of (fw3.out.kp hkq (by simp))) (fun g hs ht => Nat.not_lt_of_le hs.1 (Nat.lt_of_lt_of_le (up_x g ht) us_x_f)) (fun g hs => Nat.lt_of_lt_of_le (up_f g hs) (Nat.le_trans us_fw3 hkq.size)) (fun g ht => Nat.lt_of_lt_of_le (up_x g ht) (Nat.le_trans us_xw3 hkq.size)) (Nat.le_trans (HKw3.out.size) hkq.size) (by omega) ?_; rintro va wa fl hfl hka hown; obtain ⟨ka2, kc2, hva, -⟩ := hown.slice; obtain ⟨kn, hkn⟩ : ∃ k, k = (rs ++ [f]).length := ⟨_, rfl⟩; rw [← hkn] at hva; subst hva; have HKN := zh hkn; clear hkn; have r_g := hka.at (hkq.at Rw3_g.out (by simp)) (fun h => ns_x_g (hfl _ h)); have lw_g := h_lt r_g; have zg_0 := cell_of_heap r_g 0; have zfg_0 := frozen_of_heap r_g 0; have zg_1 := cell_of_heap r_g 1; have zfg_1 := frozen_of_heap r_g 1; simp at zg_0 zg_1)
 all_goals
  have cwq_G := cG
  clear cG
  have ⟨n_p_G, n_G_p⟩ := zne l_p
  have ⟨n_g_G, n_G_g⟩ := zne l_g
  have ⟨n_F_G, n_G_F⟩ := zne l_F
  have o_G : w.heap.size ≤ w3.heap.size := HKw3.out.size
  have g_G : 14 < w3.heap.size := Nat.lt_trans g_p l_p
  have ns_x_G : ¬ (T1) (w3.heap.size) := fun h => Nat.not_lt_of_le (us_xw3) (up_x _ h)
  have ns_y_G : ¬ (T2) (w3.heap.size) := fun h => Nat.not_lt_of_le (us_yw3) (up_y _ h)
  have ns_f_G : ¬ (Seg e1.heap.size e2.heap.size) (w3.heap.size) := fun h => Nat.not_lt_of_le (us_fw3) (up_f _ h)
  have Rwq_g := zh (hkq.at Rw3_g.out (by simp))
  have Rwq_F := zh (hkq.at Rw3_F.out (by simp))
  have HKwq := zh (HKw3.out.trans hkq (by simp))
  have HPwq := zh (HPw3.out.keep hkq)
  have xwq := zh (OwnL.kp ruleL xw3.out hkq (by simp))
  have us_xwq := Nat.le_trans us_xw3 hkq.size
  have ywq := zh (OwnL.kp funcL yw3.out hkq (by simp))
  have us_ywq := Nat.le_trans us_yw3 hkq.size
  have fwq := zh (fw3.out.kp hkq (by simp))
  have us_fwq := Nat.le_trans us_fw3 hkq.size
  have Rwq_G := zh cwq_G
  clear hkq cwq_G l_p l_g xg_0 xg_1 yg_0 yg_1 l_F xF_0 xF_1 xF_2 xF_3 xF_4 xF_5 xF_6 xF_7 xF_8 yF_0 yF_1 yF_2 yF_3 yF_4 yF_5 yF_6 yF_7 yF_8 Rw3_g Rw3_F HKw3 HPw3 xw3 us_xw3 yw3 us_yw3 fw3 us_fw3
  have Rwa_g := zh (hka.at Rwq_g.out (fun h => ns_x_g (hfl _ h)))
  have Rwa_F := zh (hka.at Rwq_F.out (fun h => ns_x_F (hfl _ h)))
  have Rwa_G := zh (hka.at Rwq_G.out (fun h => ns_x_G (hfl _ h)))
  have HKwa := zh (HKwq.out.trans hka (fun x h => .inr (dn_x x (hfl x h))))
  have HPwa := zh (HPwq.out.keepN hka (fun h => ns_x_p (hfl _ h)) (fun x h => Nat.lt_of_lt_of_le g_0 (dn_x x (hfl x h))))
  have us_xwa := Nat.le_trans us_xwq hka.size
  have ywa := zh (OwnL.kp funcL ywq.out hka (fun x h => dj_x_y x (hfl x h)))
  have us_ywa := Nat.le_trans us_ywq hka.size
  have us_fwa := Nat.le_trans us_fwq hka.size
  have us_m0 := us_xwa
  have us_f0 := us_fwa
  have hpack : ∃ T3 : Nat → Prop, OwnL RuleE 52 9 wa w.heap.size T3 (rs ++ [f]) (.slice ka2 kn kc2) ∧ (∀ x, T3 x → x < wa.heap.size) ∧ (∀ x, T3 x → w.heap.size ≤ x) ∧ (∀ x, T2 x → ¬ T3 x) ∧ ¬ T3 (p) ∧ ¬ T3 (gb) ∧ ¬ T3 (e2.heap.size) :=
   ⟨_, hown, fun x h => h.elim (fun h => Nat.lt_of_lt_of_le (up_x x h) us_m0) fun h => h.elim (fun h => Nat.lt_of_lt_of_le (up_f x h) us_f0) fun h => h.2, fun x h => h.elim (dn_x x) fun h => h.elim (dn_f x) fun h => Nat.le_trans (HKwq.out.size) h.1,
    fun x ho h => h.elim (dj_y_x x ho) fun h => h.elim (fun h => Nat.not_lt_of_le h.1 (Nat.lt_of_lt_of_le (up_y x ho) us_y_f)) fun h => Nat.not_lt_of_le h.1 (Nat.lt_of_lt_of_le (up_y x ho) us_ywq), fun h => h.elim ns_x_p fun h => h.elim ns_f_p fun h => Nat.not_lt_of_le h.1 (h_lt HPwq.out.row), fun h => h.elim ns_x_g fun h => h.elim ns_f_g fun h => Nat.not_lt_of_le h.1 (h_lt Rwq_g.out), fun h => h.elim ns_x_F fun h => h.elim ns_f_F fun h => Nat.not_lt_of_le h.1 (h_lt Rwq_F.out)⟩
  obtain ⟨T3, hown2, up_k, dn_k, dj_k, ns_k_p, ns_k_g, ns_k_F⟩ := hpack
  have HL2 := zh hown2
  clear hown hown2 hka hfl us_xwq ywq us_ywq us_fwq
  have l_p := h_lt HPwa.out.row
  obtain ⟨l_g, xg_0, xg_1, yg_0, yg_1⟩ := cf2 Rwa_g.out
  have l_F := h_lt Rwa_F.out
  go_wp2_with fail
  refine calls_at (fun W => Keeps [gb] wa W ∧ W.heap[gb]? = some (.cells #[.slice ka2 kn kc2, .slice a2 fs.length c2] 33 (0, 0))) ⟨(by with_reducible repeat (first | exact k0 _ _ | refine kA ?_ _ | refine kD ?_ | refine kS ?_ (by simp) | refine kM ?_ (by simp))), (by simp only [hS, hA, hD, hM, reduceIte, Option.map_some, Obj.put, Rwa_g.out, Nat.ne_of_lt l_g, Nat.ne_of_gt l_g] <;> rfl)⟩ ?_
  rintro w4 ⟨Kw4, cw4_g⟩
  have Rw4_F := zh (Kw4.at Rwa_F.out (by simp [n_F_g]))
  have HKw4 := zh (HKwa.out.trans Kw4 (by simp [o_g]))
  have HPw4 := zh (HPwa.out.keepN Kw4 (by simp [n_p_g]) (by simp [g_g]))
  have us_xw4 := Nat.le_trans us_xwa Kw4.size
  have yw4 := zh (OwnL.kp funcL ywa.out Kw4 (by simp [ns_y_g]))
  have us_yw4 := Nat.le_trans us_ywa Kw4.size
  have us_fw4 := Nat.le_trans us_fwa Kw4.size
  have kw4 := zh (OwnL.kp ruleL HL2.out Kw4 (by simp [ns_k_g]))
  have us_kw4 := Nat.le_trans (Nat.le_refl wa.heap.size) Kw4.size
  have Rw4_g := zh cw4_g
  clear Kw4 cw4_g l_p l_g xg_0 xg_1 yg_0 yg_1 l_F Rwa_F HKwa HPwa us_xwa ywa us_ywa us_fwa HL2 Rwa_g
  refine (ok_any HPw4.out).mono ?_
  rintro r w' ⟨rfl, hw'⟩
  rw [hw']
  clear hw'
  have l_p := h_lt HPw4.out.row
  have l_g := h_lt Rw4_g.out
  have l_F := h_lt Rw4_F.out
  go_wp2_with fail
  refine ret_at (v := .tuple #[]) (fun W => Keeps [] w4 W) (by with_reducible repeat (first | exact k0 _ _ | refine kA ?_ _ | refine kD ?_ | refine kS ?_ (by simp) | refine kM ?_ (by simp))) (fun w5 hW => ?_) rfl (fun w5 hW => ?_)
  ·have Kw5 : Keeps [] w4 w5 := hW
   simp [results, Tryz.results37, go_sem]
  ·have Kw5 : Keeps [] w4 w5 := hW
   have Rw5_g := zh (Kw5.at Rw4_g.out (by simp))
   have Rw5_F := zh (Kw5.at Rw4_F.out (by simp))
   have HKw5 := zh (HKw4.out.trans Kw5 (by simp))
   have HPw5 := zh (HPw4.out.keep Kw5)
   have us_xw5 := Nat.le_trans us_xw4 Kw5.size
   have yw5 := zh (OwnL.kp funcL yw4.out Kw5 (by simp))
   have us_yw5 := Nat.le_trans us_yw4 Kw5.size
   have us_fw5 := Nat.le_trans us_fw4 Kw5.size
   have kw5 := zh (OwnL.kp ruleL kw4.out Kw5 (by simp))
   have us_kw5 := Nat.le_trans us_kw4 Kw5.size
   clear Kw5 l_p l_g l_F Rw4_g Rw4_F HKw4 HPw4 us_xw4 yw4 us_yw4 us_fw4 kw4 us_kw4
   have hkn := HKN.out
   subst hkn
   exact ⟨rfl, _, _, T3, T2, w5.heap.size, kw5.out, yw5.out, (fun x h => Nat.lt_of_lt_of_le (up_k x h) us_kw5), (fun x h => Nat.lt_of_lt_of_le (up_y x h) us_yw5), Nat.le_refl _, dn_k, dn_y, (fun x h h2 => dj_k x h2 h), ns_k_p, ns_y_p, ns_k_g, ns_y_g, n_p_g, o_p, o_g, HPw5.out, HKw5.out, Rw5_g.out⟩
end Go.Proofs.YtkfillfkbhbbjaaGreatDoor
namespace Go.Proofs.YtkfillfkbhbbjaaGreatDoor
open Go.RowKit

theorem functionF_calls {s : ByteArray} {p k : Nat} {st st2 : PSt} {f : FuncP} (hi : isF s st (bs [102, 117, 110, 99, 116, 105, 111, 110]) = some true) (hx : functionF s (parN s k) st = some (f, st2)) (w : World) (h : PP s p st w) :
  Calls Tryz.prog 65 #[.pointer (some ⟨p, 0, none⟩)] w fun r w' => ∃ v, r = .returned v ∧ FuncV w' (fun g => w.heap.size ≤ g) f v ∧ PP s p st2 w' ∧ Keeps [p] w w' := by
 simp only [functionF, Option.bind_eq_bind, Option.bind_eq_some_iff, Prod.exists] at hx
 obtain ⟨t0, re, im, h0, b, st1, h1, t, h2, hx⟩ := hx
 obtain ⟨ht0, rfl, rfl⟩ := hereF_some h0
 obtain rfl := take_of_is h1 hi
 split at hx
 ·rename_i hk
  simp only [Option.bind_eq_some_iff, Prod.exists, Option.some.injEq, Prod.mk.injEq] at hx
  obtain ⟨st3, h3, l, st4, h4, st5, h5, st6, h6, n, st7, h7, rfl, rfl⟩ := hx
  obtain ⟨kd0, tx0, nm0, fr0, te0⟩ := t0
  obtain ⟨kd, tx, nm, fr, te⟩ := t
  simp only at hk
  subst hk
  exact function_6 ht0 h1 h2 h3 h4 h5 h6 (parN_hands k .block _ _ _ h7) w h
 ·cases hx
theorem ruleF_calls {s : ByteArray} {p k : Nat} {st st2 : PSt} {f : RuleP} (hx : ruleF s (parN s k) st = some (f, st2)) (w : World) (h : PP s p st w) :
  Calls Tryz.prog 66 #[.pointer (some ⟨p, 0, none⟩)] w fun r w' => ∃ v, r = .returned (.tuple #[v, .bool true]) ∧ RuleV w' (fun g => w.heap.size ≤ g) f v ∧ PP s p st2 w' ∧ Keeps [p] w w' := by
 simp only [ruleF, Option.bind_eq_bind, Option.bind_eq_some_iff, Prod.exists] at hx
 obtain ⟨t0, re, im, h0, b, st1, h1, hx⟩ := hx
 obtain ⟨ht0, rfl, rfl⟩ := hereF_some h0
 obtain ⟨kd0, tx0, nm0, fr0, te0⟩ := t0
 cases b with
 | true =>
  simp only [if_true, Option.bind_eq_some_iff, Prod.exists, Option.some.injEq, Prod.mk.injEq] at hx
  obtain ⟨n, st3, h3, rfl, rfl⟩ := hx
  exact rule_begin ht0 h1 (parN_hands k .block _ _ _ h3) w h
 | false =>
  obtain ⟨rfl, hn⟩ := take_false h1
  simp only [Bool.false_eq_true, if_false, Option.bind_eq_some_iff, Prod.exists] at hx
  obtain ⟨_, h2, _, h3, _, h4, c, h5, hx⟩ := hx
  cases c with
  | true =>
   simp only [if_true, Option.bind_eq_some_iff, Prod.exists, Option.some.injEq, Prod.mk.injEq] at hx
   obtain ⟨n, st3, h6, rfl, rfl⟩ := hx
   exact rule_always ht0 hn h2 h3 h4 h5 (parN_hands k .block _ _ _ h6) w h
  | false => simp at hx

/-- A program read. -/
def ProgV (w : World) (S : Nat → Prop) (g : ProgP) (v : Value) : Prop :=
 ∃ pa pc qa qc, v = .agg #[.slice pa g.rules.length pc, .slice qa g.funcs.length qc] ∧ SliceR RuleE w S g.rules (.slice pa g.rules.length pc) ∧ SliceR FuncE w S g.funcs (.slice qa g.funcs.length qc)
theorem ProgV.kp {w w' : World} {S : Nat → Prop} {fp : List Nat} {g : ProgP} {v : Value} (h : ProgV w S g v) (hk : Keeps fp w w') (hf : ∀ x ∈ fp, ¬ S x) : ProgV w' S g v := by
 obtain ⟨pa, pc, qa, qc, h, h1, h2⟩ := h
 exact ⟨pa, pc, qa, qc, h, h1.kp ruleL hk hf, h2.kp funcL hk hf⟩
/-- An item of a program. -/
theorem item_any {s : ByteArray} {p gb k : Nat} {w wi : World} {st st2 : PSt} {rs : List RuleP} {fs : List FuncP} {g2 : ProgP} (hlen : rs.length + fs.length ≤ 1000) (g_0 : 14 < w.heap.size) (hi : ProgI s p gb w rs fs st wi)
  (hx : (do
   let b ← isF s st (bs [102, 117, 110, 99, 116, 105, 111, 110])
   if b then do
    let (x, st) ← functionF s (parN s k) st
    some ((⟨rs, fs ++ [x]⟩ : ProgP), st)
   else do
    let (x, st) ← ruleF s (parN s k) st
    some ((⟨rs ++ [x], fs⟩ : ProgP), st)) = some (g2, st2)) :
  Calls Tryz.prog 37 #[.pointer (some ⟨p, 0, none⟩), .pointer (some ⟨gb, 0, none⟩)] wi fun r w' => r = .returned (.tuple #[]) ∧ ProgI s p gb w g2.rules g2.funcs st2 w' := by
 simp only [Option.bind_eq_bind, Option.bind_eq_some_iff] at hx
 obtain ⟨b, hb, hx⟩ := hx
 cases b with
 | true =>
  simp only [if_true, Option.bind_eq_some_iff, Prod.exists, Option.some.injEq, Prod.mk.injEq] at hx
  obtain ⟨f, st3, h3, rfl, rfl⟩ := hx
  exact item_f hb (functionF_calls hb h3) (by omega) g_0 hi
 | false =>
  simp only [Bool.false_eq_true, if_false, Option.bind_eq_some_iff, Prod.exists, Option.some.injEq, Prod.mk.injEq] at hx
  obtain ⟨f, st3, h3, rfl, rfl⟩ := hx
  exact item_r hb (ruleF_calls h3) (by omega) g_0 hi
end Go.Proofs.YtkfillfkbhbbjaaGreatDoor
