/- call, walked. Made by a program (parse.py, walk.py). -/
import Derived.Test.YtkfillfkbhbbjaaGreatDoorLevelsL
set_option maxRecDepth 100000
set_option maxHeartbeats 4000000
set_option linter.unusedSimpArgs false
set_option linter.unusedVariables false
namespace Go.Proofs.YtkfillfkbhbbjaaGreatDoor
open Go.RowKit

/-- What 'call' does. -/
def CallH (s : ByteArray) (p : Nat) (t : Tok) (re im : Nat) (st st' : PSt) (n : Node) : Prop :=
 ∀ w, PP s p st w → Calls Tryz.prog 295 #[.pointer (some ⟨p, 0, none⟩), tokV t, .complex .f64 re im] w fun r w' => ∃ v, r = .returned v ∧ NodeR w' (fun g => w.heap.size ≤ g) n v ∧ PP s p st' w' ∧ Keeps [p] w w'

theorem lists_at {s : ByteArray} {p : Nat} {st st' : PSt} {l : List Node} {f : FuncId} {args : List Value} {b : World} (h : Lists s p st st' l f args) (hp : PP s p st b) (W : World) (hk : Keeps [] b W) :
  Calls Tryz.prog f (.pointer (some ⟨p, 0, none⟩) :: args).toArray W fun r w' => ∃ v, r = .returned v ∧ (KidsR w' (Seg b.heap.size w'.heap.size) l v ∧ PP s p st' w' ∧ Keeps [p] b w') :=
 (h W (hp.keep hk)).mono fun _ _ ⟨v, hr, hn, hp', hk'⟩ => ⟨v, hr, (hn.to fun _ h => Nat.le_trans hk.size h).seg, hp', (hk.weaken (by simp)).trans hk' (by simp)⟩

theorem operand_index {s : ByteArray} {p : Nat} {st : PSt} {tx : ByteArray} {nm fr te : Nat} (ht : nextF s st.pos true = some ⟨5, tx, nm, fr, te⟩) {st2 st3 : PSt} {l : List Node} (hx : takeF s ⟨te, st.opn, st.ng⟩ ⟨#[91]⟩ = some (true, st2)) (hi : Lists s p st2 st3 l 189 [.string ⟨#[93]⟩]) : Hands s p st st3 (.mk 5 tx 0 l (placeOf s fr).1 (placeOf s fr).2) 294 := by
 intro w h
 have g_p := h.p
 obtain ⟨le1, le2, -⟩ := nextF_le ht h.le
 simp only at le1 le2
 have le3 := Nat.le_trans le1 le2
 have HP0 := zh h; have HK0 := zh (Keeps.refl [p] w); have HT := zh ht; have HX := zh hx; have HI := zh hi
 clear h ht le1 hx hi

 go_enter Tryz.func294, Tryz.ntmps294
 have l_p := h_lt HP0.out.row
 go_wp2_with fail
 refine calls_at (fun W => Keeps [] w W ∧ W.heap[w.heap.size]? = some (.cells #[.int .i64 0, .string ⟨#[]⟩, .float .f64 0, .slice none 0 0, .complex .f64 0 0] 50 (0, 0))) ⟨(by with_reducible repeat (first | exact k0 _ _ | refine kA ?_ _ | refine kD ?_ | refine kS ?_ (by simp) | refine kM ?_ (by simp))), (by simp only [hS, hA, hD, hM, World.size_setCell, World.size_drew, reduceIte, Option.map_some, Obj.put] <;> rfl)⟩ ?_
 rintro w1 ⟨Kw1, cw1_R⟩
 have ⟨n_p_R, n_R_p⟩ := zne l_p
 have o_R : w.heap.size ≤ w.heap.size := Nat.le_refl _
 have g_R : 14 < w.heap.size := Nat.lt_trans g_p l_p
 have HKw1 := zh (HK0.out.trans Kw1 (by simp))
 have HPw1 := zh (HP0.out.keep Kw1)
 have Rw1_R := zh cw1_R
 clear Kw1 cw1_R l_p HK0 HP0
 refine (see_any HPw1.out HT.out).mono ?_
 rintro r e2 ⟨rfl, hk⟩
 have Re2_R := zh (hk.at Rw1_R.out (by simp))
 have HKe2 := zh (HKw1.out.trans hk (by simp))
 have HPe2 := zh (HPw1.out.keep hk)
 clear hk Rw1_R HKw1 HPw1
 have l_p := h_lt HPe2.out.row
 have l_R := h_lt Re2_R.out
 go_wp2_with fail
 refine calls_at (fun W => Keeps [] e2 W ∧ W.heap[e2.heap.size]? = some (.cells #[.int .i64 5, .string tx, .float .f64 nm, .int .i64 fr, .int .i64 te] 90 (0, 0))) ⟨(by with_reducible repeat (first | exact k0 _ _ | refine kA ?_ _ | refine kD ?_ | refine kS ?_ (by simp) | refine kM ?_ (by simp))), (by simp only [hS, hA, hD, hM, World.size_setCell, World.size_drew, reduceIte, Option.map_some, Obj.put] <;> rfl)⟩ ?_
 rintro w3 ⟨Kw3, cw3_T⟩
 have ⟨n_p_T, n_T_p⟩ := zne l_p
 have ⟨n_R_T, n_T_R⟩ := zne l_R
 have o_T : w.heap.size ≤ e2.heap.size := HKe2.out.size
 have g_T : 14 < e2.heap.size := Nat.lt_trans g_p l_p
 have Rw3_R := zh (Kw3.at Re2_R.out (by simp))
 have HKw3 := zh (HKe2.out.trans Kw3 (by simp))
 have HPw3 := zh (HPe2.out.keep Kw3)
 have Rw3_T := zh cw3_T
 clear Kw3 cw3_T l_p l_R Re2_R HKe2 HPe2
 refine (ok_any HPw3.out).mono ?_
 rintro r w' ⟨rfl, hw'⟩
 rw [hw']
 clear hw'
 have l_p := h_lt HPw3.out.row
 have l_R := h_lt Rw3_R.out
 obtain ⟨l_T, xT_0, xT_1, xT_2, xT_3, xT_4, yT_0, yT_1, yT_2, yT_3, yT_4⟩ := cf5 Rw3_T.out
 go_wp2_with fail
 clear l_p l_R l_T xT_0 xT_1 xT_2 xT_3 xT_4 yT_0 yT_1 yT_2 yT_3 yT_4
 refine (place_tok HPw3.out ⟨5, tx, nm, fr, te⟩ le3).mono ?_
 rintro r e4 ⟨rfl, hk⟩
 have Re4_R := zh (hk.at Rw3_R.out (by simp))
 have Re4_T := zh (hk.at Rw3_T.out (by simp))
 have HKe4 := zh (HKw3.out.trans hk (by simp))
 have HPe4 := zh (HPw3.out.keep hk)
 clear hk Rw3_R Rw3_T HKw3 HPw3
 obtain ⟨l_p, xp_0, xp_1, xp_2, xp_3, xp_4, xp_5, yp_0, yp_1, yp_2, yp_3, yp_4, yp_5⟩ := cf6 HPe4.out.row
 have l_R := h_lt Re4_R.out
 obtain ⟨l_T, xT_0, xT_1, xT_2, xT_3, xT_4, yT_0, yT_1, yT_2, yT_3, yT_4⟩ := cf5 Re4_T.out
 go_wp2_with fail
 refine calls_at (fun W => Keeps [p] e4 W ∧ W.heap[p]? = some (.cells #[.string s, .int .i64 te, .int .i64 st.opn, .bool st.ng, .int .i64 0, .complex .f64 0 0] 87 (0, 0))) ⟨(by with_reducible repeat (first | exact k0 _ _ | refine kA ?_ _ | refine kD ?_ | refine kS ?_ (by simp) | refine kM ?_ (by simp))), (by simp only [hS, hA, hD, hM, reduceIte, Option.map_some, Obj.put, HPe4.out.row, Nat.ne_of_lt l_p, Nat.ne_of_gt l_p] <;> rfl)⟩ ?_
 rintro w5 ⟨Kw5, cw5_p⟩
 have Rw5_R := zh (Kw5.at Re4_R.out (by simp [n_R_p]))
 have Rw5_T := zh (Kw5.at Re4_T.out (by simp [n_T_p]))
 have HKw5 := zh (HKe4.out.trans Kw5 (by simp))
 have HPw5 : Hid (PP s p ⟨te, st.opn, st.ng⟩ w5) := zh (HPe4.out.upd Kw5 (by simp [g_p]) cw5_p (by first | assumption | exact HPe4.out.le) HPe4.out.ob)
 clear Kw5 cw5_p l_p xp_0 xp_1 xp_2 xp_3 xp_4 xp_5 yp_0 yp_1 yp_2 yp_3 yp_4 yp_5 l_R l_T xT_0 xT_1 xT_2 xT_3 xT_4 yT_0 yT_1 yT_2 yT_3 yT_4 Re4_R Re4_T HKe4 HPe4
 refine (take_any HPw5.out HX.out).mono ?_
 rintro r e6 ⟨rfl, hp, hk⟩
 have Re6_R := zh (hk.at Rw5_R.out (by simp [n_R_p]))
 have Re6_T := zh (hk.at Rw5_T.out (by simp [n_T_p]))
 have HKe6 := zh (HKw5.out.trans hk (by simp))
 have HPne6 := zh hp
 clear hp
 clear hk Rw5_R Rw5_T HKw5 HPw5
 have l_p := h_lt HPne6.out.row
 obtain ⟨l_R, xR_0, xR_1, xR_2, xR_3, xR_4, yR_0, yR_1, yR_2, yR_3, yR_4⟩ := cf5 Re6_R.out
 obtain ⟨l_T, xT_0, xT_1, xT_2, xT_3, xT_4, yT_0, yT_1, yT_2, yT_3, yT_4⟩ := cf5 Re6_T.out
 go_upto_region 23 with fail
 have HCl := zh (lists_at HI.out HPne6.out)
 go_upto_region 23 with fail
 go_cut [] (fun W => ∃ (u_ : World) (la : Option Addr) (ll lc : Nat), KidsR u_ (Seg e6.heap.size u_.heap.size) l (.slice la ll lc) ∧ PP s p ⟨st3.pos, st3.opn, st3.ng⟩ u_ ∧ Keeps [p] e6 u_ ∧ Keeps [w.heap.size] u_ W ∧ W.heap[w.heap.size]? = some (.cells #[.int .i64 5, .string tx, .float .f64 0, .slice la ll lc, .complex .f64 (placeOf s fr).1 (placeOf s fr).2] 50 (0, 0)))
 case first =>
  go_region_law ((refine step_call (f := 189) (vals := #[.pointer (some ⟨p, 0, none⟩), .string ⟨#[93]⟩]) rfl _ rfl (by kernel_rfl) (HCl.out _ (by with_reducible repeat (first | exact k0 _ _ | refine kA ?_ _ | refine kD ?_ | refine kS ?_ (by simp) | refine kM ?_ (by simp)))) ?_; rintro v u_ ⟨hn, hp, hk⟩; obtain ⟨la, ll, lc, rfl⟩ := hn.slice; have r_R := hk.at Re6_R.out (by simp [n_R_p]); have l_R := h_lt r_R; have zR_0 := cell_of_heap r_R 0; have zfR_0 := frozen_of_heap r_R 0; have zR_1 := cell_of_heap r_R 1; have zfR_1 := frozen_of_heap r_R 1; have zR_2 := cell_of_heap r_R 2; have zfR_2 := frozen_of_heap r_R 2; have zR_3 := cell_of_heap r_R 3; have zfR_3 := frozen_of_heap r_R 3; have zR_4 := cell_of_heap r_R 4; have zfR_4 := frozen_of_heap r_R 4; simp at zR_0 zR_1 zR_2 zR_3 zR_4; have r_T := hk.at Re6_T.out (by simp [n_T_p]); have l_T := h_lt r_T; have zT_0 := cell_of_heap r_T 0; have zfT_0 := frozen_of_heap r_T 0; have zT_1 := cell_of_heap r_T 1; have zfT_1 := frozen_of_heap r_T 1; have zT_2 := cell_of_heap r_T 2; have zfT_2 := frozen_of_heap r_T 2; have zT_3 := cell_of_heap r_T 3; have zfT_3 := frozen_of_heap r_T 3; have zT_4 := cell_of_heap r_T 4; have zfT_4 := frozen_of_heap r_T 4; simp at zT_0 zT_1 zT_2 zT_3 zT_4))
  all_goals
   go_wp2_with fail
   go_meet
   case rel => exact ⟨u_, la, ll, lc, hn, hp, hk, (by with_reducible repeat (first | exact k0 _ _ | refine kA ?_ _ | refine kD ?_ | refine kS ?_ (by simp) | refine kM ?_ (by simp))), (by simp only [hS, hA, hD, hM, reduceIte, Option.map_some, Obj.put, r_R, Nat.ne_of_lt l_R, Nat.ne_of_gt l_R] <;> rfl)⟩
 case rest =>
  clear l_p l_R xR_0 xR_1 xR_2 xR_3 xR_4 yR_0 yR_1 yR_2 yR_3 yR_4 l_T xT_0 xT_1 xT_2 xT_3 xT_4 yT_0 yT_1 yT_2 yT_3 yT_4
  obtain ⟨e7, la, ll, lc, hn, hp, hk, Kw8, cc_R⟩ := hcut
  have Re7_R := zh (hk.at Re6_R.out (by simp [n_R_p]))
  have Re7_T := zh (hk.at Re6_T.out (by simp [n_T_p]))
  have HKe7 := zh (HKe6.out.trans hk (by simp))
  have HPne7 := zh hp
  have le7 := zh hn
  have o_l : w.heap.size ≤ e6.heap.size := HKe6.out.size
  have ns_l_p : ¬ (Seg e6.heap.size e7.heap.size) (p) := fun h => Nat.not_lt_of_le h.1 (h_lt HPne6.out.row)
  have ns_l_R : ¬ (Seg e6.heap.size e7.heap.size) (w.heap.size) := fun h => Nat.not_lt_of_le h.1 (h_lt Re6_R.out)
  have ns_l_T : ¬ (Seg e6.heap.size e7.heap.size) (e2.heap.size) := fun h => Nat.not_lt_of_le h.1 (h_lt Re6_T.out)
  have up_l : ∀ g, (Seg e6.heap.size e7.heap.size) g → g < e7.heap.size := fun _ h => h.2
  have dn_l : ∀ g, (Seg e6.heap.size e7.heap.size) g → w.heap.size ≤ g := fun _ h => Nat.le_trans o_l h.1
  clear hn hp
  clear hk Re6_R Re6_T HKe6 HPne6
  have l_p := h_lt HPne7.out.row
  have l_R := h_lt Re7_R.out
  have l_T := h_lt Re7_T.out
  generalize wc = w8 at *
  have cw8_R := cc_R
  clear cc_R
  have Rw8_T := zh (Kw8.at Re7_T.out (by simp [n_T_R]))
  have HKw8 := zh (HKe7.out.trans Kw8 (by simp [o_R]))
  have HPw8 := zh (HPne7.out.keepN Kw8 (by simp [n_p_R]) (by simp [g_R]))
  have lw8 := zh (le7.out.kp Kw8 (by simp [ns_l_R]))
  have us_lw8 := Nat.le_trans (Nat.le_refl e7.heap.size) Kw8.size
  have Rw8_R := zh cw8_R
  clear Kw8 cw8_R l_p l_R l_T Re7_T HKe7 HPne7 le7 Re7_R
  have l_p := h_lt HPw8.out.row
  obtain ⟨l_R, xR_0, xR_1, xR_2, xR_3, xR_4, yR_0, yR_1, yR_2, yR_3, yR_4⟩ := cf5 Rw8_R.out
  have l_T := h_lt Rw8_T.out
  go_wp2_with fail
  refine ret_at (v := .agg #[.int .i64 5, .string tx, .float .f64 0, .slice la ll lc, .complex .f64 (placeOf s fr).1 (placeOf s fr).2]) (fun W => Keeps [] w8 W) (by with_reducible repeat (first | exact k0 _ _ | refine kA ?_ _ | refine kD ?_ | refine kS ?_ (by simp) | refine kM ?_ (by simp))) (fun w9 hW => ?_) rfl (fun w9 hW => ?_)
  ·have Kw9 : Keeps [] w8 w9 := hW
   have q0 := cell_of_heap (Kw9.at Rw8_R.out (by simp)) 0
   have q1 := cell_of_heap (Kw9.at Rw8_R.out (by simp)) 1
   have q2 := cell_of_heap (Kw9.at Rw8_R.out (by simp)) 2
   have q3 := cell_of_heap (Kw9.at Rw8_R.out (by simp)) 3
   have q4 := cell_of_heap (Kw9.at Rw8_R.out (by simp)) 4
   simp at q0 q1 q2 q3 q4
   simp [results, Tryz.results294, go_sem, q0, q1, q2, q3, q4]
  ·have Kw9 : Keeps [] w8 w9 := hW
   have Rw9_R := zh (Kw9.at Rw8_R.out (by simp))
   have Rw9_T := zh (Kw9.at Rw8_T.out (by simp))
   have HKw9 := zh (HKw8.out.trans Kw9 (by simp))
   have HPw9 := zh (HPw8.out.keep Kw9)
   have lw9 := zh (lw8.out.kp Kw9 (by simp))
   have us_lw9 := Nat.le_trans us_lw8 Kw9.size
   clear Kw9 l_p l_R xR_0 xR_1 xR_2 xR_3 xR_4 yR_0 yR_1 yR_2 yR_3 yR_4 l_T Rw8_R Rw8_T HKw8 HPw8 lw8 us_lw8
   exact ⟨_, rfl, .mk (lw9.out.to dn_l), HPw9.out, HKw9.out⟩

theorem operand_dollar {s : ByteArray} {p : Nat} {st : PSt} {tx : ByteArray} {nm fr te : Nat} (ht : nextF s st.pos true = some ⟨9, tx, nm, fr, te⟩) {st2 : PSt} {n : Node} (htx : (tx.toList == [36]) = true) (hd : Hands s p ⟨te, st.opn, st.ng⟩ st2 n 296) : Hands s p st st2 (.mk 6 ⟨#[]⟩ 0 [n] (placeOf s fr).1 (placeOf s fr).2) 294 := by
 intro w h
 have g_p := h.p
 obtain ⟨le1, le2, -⟩ := nextF_le ht h.le
 simp only at le1 le2
 have le3 := Nat.le_trans le1 le2
 have HP0 := zh h; have HK0 := zh (Keeps.refl [p] w); have HT := zh ht; have HD := zh hd
 clear h ht le1 hd

 go_enter Tryz.func294, Tryz.ntmps294
 have l_p := h_lt HP0.out.row
 go_wp2_with fail
 refine calls_at (fun W => Keeps [] w W ∧ W.heap[w.heap.size]? = some (.cells #[.int .i64 0, .string ⟨#[]⟩, .float .f64 0, .slice none 0 0, .complex .f64 0 0] 50 (0, 0))) ⟨(by with_reducible repeat (first | exact k0 _ _ | refine kA ?_ _ | refine kD ?_ | refine kS ?_ (by simp) | refine kM ?_ (by simp))), (by simp only [hS, hA, hD, hM, World.size_setCell, World.size_drew, reduceIte, Option.map_some, Obj.put] <;> rfl)⟩ ?_
 rintro w1 ⟨Kw1, cw1_R⟩
 have ⟨n_p_R, n_R_p⟩ := zne l_p
 have o_R : w.heap.size ≤ w.heap.size := Nat.le_refl _
 have g_R : 14 < w.heap.size := Nat.lt_trans g_p l_p
 have HKw1 := zh (HK0.out.trans Kw1 (by simp))
 have HPw1 := zh (HP0.out.keep Kw1)
 have Rw1_R := zh cw1_R
 clear Kw1 cw1_R l_p HK0 HP0
 refine (see_any HPw1.out HT.out).mono ?_
 rintro r e2 ⟨rfl, hk⟩
 have Re2_R := zh (hk.at Rw1_R.out (by simp))
 have HKe2 := zh (HKw1.out.trans hk (by simp))
 have HPe2 := zh (HPw1.out.keep hk)
 clear hk Rw1_R HKw1 HPw1
 have l_p := h_lt HPe2.out.row
 have l_R := h_lt Re2_R.out
 go_wp2_with fail
 refine calls_at (fun W => Keeps [] e2 W ∧ W.heap[e2.heap.size]? = some (.cells #[.int .i64 9, .string tx, .float .f64 nm, .int .i64 fr, .int .i64 te] 90 (0, 0))) ⟨(by with_reducible repeat (first | exact k0 _ _ | refine kA ?_ _ | refine kD ?_ | refine kS ?_ (by simp) | refine kM ?_ (by simp))), (by simp only [hS, hA, hD, hM, World.size_setCell, World.size_drew, reduceIte, Option.map_some, Obj.put] <;> rfl)⟩ ?_
 rintro w3 ⟨Kw3, cw3_T⟩
 have ⟨n_p_T, n_T_p⟩ := zne l_p
 have ⟨n_R_T, n_T_R⟩ := zne l_R
 have o_T : w.heap.size ≤ e2.heap.size := HKe2.out.size
 have g_T : 14 < e2.heap.size := Nat.lt_trans g_p l_p
 have Rw3_R := zh (Kw3.at Re2_R.out (by simp))
 have HKw3 := zh (HKe2.out.trans Kw3 (by simp))
 have HPw3 := zh (HPe2.out.keep Kw3)
 have Rw3_T := zh cw3_T
 clear Kw3 cw3_T l_p l_R Re2_R HKe2 HPe2
 refine (ok_any HPw3.out).mono ?_
 rintro r w' ⟨rfl, hw'⟩
 rw [hw']
 clear hw'
 have l_p := h_lt HPw3.out.row
 have l_R := h_lt Rw3_R.out
 obtain ⟨l_T, xT_0, xT_1, xT_2, xT_3, xT_4, yT_0, yT_1, yT_2, yT_3, yT_4⟩ := cf5 Rw3_T.out
 go_wp2_with fail
 clear l_p l_R l_T xT_0 xT_1 xT_2 xT_3 xT_4 yT_0 yT_1 yT_2 yT_3 yT_4
 refine (place_tok HPw3.out ⟨9, tx, nm, fr, te⟩ le3).mono ?_
 rintro r e4 ⟨rfl, hk⟩
 have Re4_R := zh (hk.at Rw3_R.out (by simp))
 have Re4_T := zh (hk.at Rw3_T.out (by simp))
 have HKe4 := zh (HKw3.out.trans hk (by simp))
 have HPe4 := zh (HPw3.out.keep hk)
 clear hk Rw3_R Rw3_T HKw3 HPw3
 obtain ⟨l_p, xp_0, xp_1, xp_2, xp_3, xp_4, xp_5, yp_0, yp_1, yp_2, yp_3, yp_4, yp_5⟩ := cf6 HPe4.out.row
 have l_R := h_lt Re4_R.out
 obtain ⟨l_T, xT_0, xT_1, xT_2, xT_3, xT_4, yT_0, yT_1, yT_2, yT_3, yT_4⟩ := cf5 Re4_T.out
 go_wp2_with fail
 refine calls_at (fun W => Keeps [p] e4 W ∧ W.heap[p]? = some (.cells #[.string s, .int .i64 te, .int .i64 st.opn, .bool st.ng, .int .i64 0, .complex .f64 0 0] 87 (0, 0))) ⟨(by with_reducible repeat (first | exact k0 _ _ | refine kA ?_ _ | refine kD ?_ | refine kS ?_ (by simp) | refine kM ?_ (by simp))), (by simp only [hS, hA, hD, hM, reduceIte, Option.map_some, Obj.put, HPe4.out.row, Nat.ne_of_lt l_p, Nat.ne_of_gt l_p] <;> rfl)⟩ ?_
 rintro w5 ⟨Kw5, cw5_p⟩
 have Rw5_R := zh (Kw5.at Re4_R.out (by simp [n_R_p]))
 have Rw5_T := zh (Kw5.at Re4_T.out (by simp [n_T_p]))
 have HKw5 := zh (HKe4.out.trans Kw5 (by simp))
 have HPw5 : Hid (PP s p ⟨te, st.opn, st.ng⟩ w5) := zh (HPe4.out.upd Kw5 (by simp [g_p]) cw5_p (by first | assumption | exact HPe4.out.le) HPe4.out.ob)
 clear Kw5 cw5_p l_p xp_0 xp_1 xp_2 xp_3 xp_4 xp_5 yp_0 yp_1 yp_2 yp_3 yp_4 yp_5 l_R l_T xT_0 xT_1 xT_2 xT_3 xT_4 yT_0 yT_1 yT_2 yT_3 yT_4 Re4_R Re4_T HKe4 HPe4
 refine (HD.out _ HPw5.out).mono ?_
 rintro r e6 ⟨v, rfl, hn, hp, hk⟩
 have Re6_R := zh (hk.at Rw5_R.out (by simp [n_R_p]))
 have Re6_T := zh (hk.at Rw5_T.out (by simp [n_T_p]))
 have HKe6 := zh (HKw5.out.trans hk (by simp))
 have HPne6 := zh hp
 have ne6 := zh hn.seg
 have o_n : w.heap.size ≤ w5.heap.size := HKw5.out.size
 have ns_n_p : ¬ (Seg w5.heap.size e6.heap.size) (p) := fun h => Nat.not_lt_of_le h.1 (h_lt HPw5.out.row)
 have ns_n_R : ¬ (Seg w5.heap.size e6.heap.size) (w.heap.size) := fun h => Nat.not_lt_of_le h.1 (h_lt Rw5_R.out)
 have ns_n_T : ¬ (Seg w5.heap.size e6.heap.size) (e2.heap.size) := fun h => Nat.not_lt_of_le h.1 (h_lt Rw5_T.out)
 have up_n : ∀ g, (Seg w5.heap.size e6.heap.size) g → g < e6.heap.size := fun _ h => h.2
 have dn_n : ∀ g, (Seg w5.heap.size e6.heap.size) g → w.heap.size ≤ g := fun _ h => Nat.le_trans o_n h.1
 obtain ⟨nt, nm, na, nl, nc, nr, ni, rfl, -, -⟩ := hn.shape
 clear hn hp
 clear hk Rw5_R Rw5_T HKw5 HPw5
 have l_p := h_lt HPne6.out.row
 obtain ⟨l_R, xR_0, xR_1, xR_2, xR_3, xR_4, yR_0, yR_1, yR_2, yR_3, yR_4⟩ := cf5 Re6_R.out
 have l_T := h_lt Re6_T.out
 go_wp2_with fail
 refine ret_at (v := .agg #[.int .i64 6, .string ⟨#[]⟩, .float .f64 0, .slice (some ⟨e6.heap.size, 0, none⟩) 1 1, .complex .f64 (placeOf s fr).1 (placeOf s fr).2]) (fun W => Keeps [w.heap.size] e6 W ∧ W.heap[w.heap.size]? = some (.cells #[.int .i64 6, .string ⟨#[]⟩, .float .f64 0, .slice (some ⟨e6.heap.size, 0, none⟩) 1 1, .complex .f64 (placeOf s fr).1 (placeOf s fr).2] 50 (0, 0)) ∧ W.heap[e6.heap.size]? = some (.cells #[.int .i64 n.kind, .string nt, .float .f64 nm, .slice na nl nc, .complex .f64 nr ni] 50 (0, 0))) ⟨(by with_reducible repeat (first | exact k0 _ _ | refine kA ?_ _ | refine kD ?_ | refine kS ?_ (by simp) | refine kM ?_ (by simp))), (by simp only [hS, hA, hD, hM, World.size_setCell, World.size_drew, reduceIte, Option.map_some, Obj.put, Re6_R.out, Nat.ne_of_lt l_R, Nat.ne_of_gt l_R] <;> rfl), (by simp only [hS, hA, hD, hM, World.size_setCell, World.size_drew, reduceIte, Option.map_some, Obj.put, Re6_R.out, Nat.ne_of_lt l_R, Nat.ne_of_gt l_R] <;> rfl)⟩ (fun w7 hW => ?_) rfl (fun w7 hW => ?_)
 ·obtain ⟨Kw7, cw7_R, cw7_G⟩ := hW
  have q0 := cell_of_heap cw7_R 0
  have q1 := cell_of_heap cw7_R 1
  have q2 := cell_of_heap cw7_R 2
  have q3 := cell_of_heap cw7_R 3
  have q4 := cell_of_heap cw7_R 4
  simp at q0 q1 q2 q3 q4
  simp [results, Tryz.results294, go_sem, q0, q1, q2, q3, q4]
 ·obtain ⟨Kw7, cw7_R, cw7_G⟩ := hW
  have ⟨n_p_G, n_G_p⟩ := zne l_p
  have ⟨n_R_G, n_G_R⟩ := zne l_R
  have ⟨n_T_G, n_G_T⟩ := zne l_T
  have o_G : w.heap.size ≤ e6.heap.size := HKe6.out.size
  have g_G : 14 < e6.heap.size := Nat.lt_trans g_p l_p
  have ns_n_G : ¬ (Seg w5.heap.size e6.heap.size) (e6.heap.size) := fun h => Nat.not_lt_of_le ((Nat.le_refl e6.heap.size)) (up_n _ h)
  have Rw7_T := zh (Kw7.at Re6_T.out (by simp [n_T_R]))
  have HKw7 := zh (HKe6.out.trans Kw7 (by simp [o_R]))
  have HPw7 := zh (HPne6.out.keepN Kw7 (by simp [n_p_R]) (by simp [g_R]))
  have nw7 := zh (ne6.out.kp Kw7 (by simp [ns_n_R]))
  have us_nw7 := Nat.le_trans (Nat.le_refl e6.heap.size) Kw7.size
  have Rw7_R := zh cw7_R
  have Rw7_G := zh cw7_G
  clear Kw7 cw7_R cw7_G l_p l_R xR_0 xR_1 xR_2 xR_3 xR_4 yR_0 yR_1 yR_2 yR_3 yR_4 l_T Re6_T HKe6 HPne6 ne6 Re6_R
  exact ⟨_, rfl, .mk (.some (S := fun g => w.heap.size ≤ g) o_G (h_lt Rw7_G.out) (row1 nw7.out dn_n Rw7_G.out)), HPw7.out, HKw7.out⟩

theorem operand_call6 {s : ByteArray} {p : Nat} {st : PSt} {tx : ByteArray} {nm fr te : Nat} (ht : nextF s st.pos true = some ⟨6, tx, nm, fr, te⟩) {st2 : PSt} {n : Node} (hc : CallH s p ⟨6, tx, nm, fr, te⟩ (placeOf s fr).1 (placeOf s fr).2 st st2 n) : Hands s p st st2 n 294 := by
 intro w h
 have g_p := h.p
 obtain ⟨le1, le2, -⟩ := nextF_le ht h.le
 simp only at le1 le2
 have le3 := Nat.le_trans le1 le2
 have HP0 := zh h; have HK0 := zh (Keeps.refl [p] w); have HT := zh ht; have HC := zh hc
 clear h ht le1 hc

 go_enter Tryz.func294, Tryz.ntmps294
 have l_p := h_lt HP0.out.row
 go_wp2_with fail
 refine calls_at (fun W => Keeps [] w W ∧ W.heap[w.heap.size]? = some (.cells #[.int .i64 0, .string ⟨#[]⟩, .float .f64 0, .slice none 0 0, .complex .f64 0 0] 50 (0, 0))) ⟨(by with_reducible repeat (first | exact k0 _ _ | refine kA ?_ _ | refine kD ?_ | refine kS ?_ (by simp) | refine kM ?_ (by simp))), (by simp only [hS, hA, hD, hM, World.size_setCell, World.size_drew, reduceIte, Option.map_some, Obj.put] <;> rfl)⟩ ?_
 rintro w1 ⟨Kw1, cw1_R⟩
 have ⟨n_p_R, n_R_p⟩ := zne l_p
 have o_R : w.heap.size ≤ w.heap.size := Nat.le_refl _
 have g_R : 14 < w.heap.size := Nat.lt_trans g_p l_p
 have HKw1 := zh (HK0.out.trans Kw1 (by simp))
 have HPw1 := zh (HP0.out.keep Kw1)
 have Rw1_R := zh cw1_R
 clear Kw1 cw1_R l_p HK0 HP0
 refine (see_any HPw1.out HT.out).mono ?_
 rintro r e2 ⟨rfl, hk⟩
 have Re2_R := zh (hk.at Rw1_R.out (by simp))
 have HKe2 := zh (HKw1.out.trans hk (by simp))
 have HPe2 := zh (HPw1.out.keep hk)
 clear hk Rw1_R HKw1 HPw1
 have l_p := h_lt HPe2.out.row
 have l_R := h_lt Re2_R.out
 go_wp2_with fail
 refine calls_at (fun W => Keeps [] e2 W ∧ W.heap[e2.heap.size]? = some (.cells #[.int .i64 6, .string tx, .float .f64 nm, .int .i64 fr, .int .i64 te] 90 (0, 0))) ⟨(by with_reducible repeat (first | exact k0 _ _ | refine kA ?_ _ | refine kD ?_ | refine kS ?_ (by simp) | refine kM ?_ (by simp))), (by simp only [hS, hA, hD, hM, World.size_setCell, World.size_drew, reduceIte, Option.map_some, Obj.put] <;> rfl)⟩ ?_
 rintro w3 ⟨Kw3, cw3_T⟩
 have ⟨n_p_T, n_T_p⟩ := zne l_p
 have ⟨n_R_T, n_T_R⟩ := zne l_R
 have o_T : w.heap.size ≤ e2.heap.size := HKe2.out.size
 have g_T : 14 < e2.heap.size := Nat.lt_trans g_p l_p
 have Rw3_R := zh (Kw3.at Re2_R.out (by simp))
 have HKw3 := zh (HKe2.out.trans Kw3 (by simp))
 have HPw3 := zh (HPe2.out.keep Kw3)
 have Rw3_T := zh cw3_T
 clear Kw3 cw3_T l_p l_R Re2_R HKe2 HPe2
 refine (ok_any HPw3.out).mono ?_
 rintro r w' ⟨rfl, hw'⟩
 rw [hw']
 clear hw'
 have l_p := h_lt HPw3.out.row
 have l_R := h_lt Rw3_R.out
 obtain ⟨l_T, xT_0, xT_1, xT_2, xT_3, xT_4, yT_0, yT_1, yT_2, yT_3, yT_4⟩ := cf5 Rw3_T.out
 go_wp2_with fail
 clear l_p l_R l_T xT_0 xT_1 xT_2 xT_3 xT_4 yT_0 yT_1 yT_2 yT_3 yT_4
 refine (place_tok HPw3.out ⟨6, tx, nm, fr, te⟩ le3).mono ?_
 rintro r e4 ⟨rfl, hk⟩
 have Re4_R := zh (hk.at Rw3_R.out (by simp))
 have Re4_T := zh (hk.at Rw3_T.out (by simp))
 have HKe4 := zh (HKw3.out.trans hk (by simp))
 have HPe4 := zh (HPw3.out.keep hk)
 clear hk Rw3_R Rw3_T HKw3 HPw3
 have l_p := h_lt HPe4.out.row
 have l_R := h_lt Re4_R.out
 obtain ⟨l_T, xT_0, xT_1, xT_2, xT_3, xT_4, yT_0, yT_1, yT_2, yT_3, yT_4⟩ := cf5 Re4_T.out
 go_wp2_with fail
 clear l_p l_R l_T xT_0 xT_1 xT_2 xT_3 xT_4 yT_0 yT_1 yT_2 yT_3 yT_4
 refine (HC.out _ HPe4.out).mono ?_
 rintro r e5 ⟨v, rfl, hn, hp, hk⟩
 have Re5_R := zh (hk.at Re4_R.out (by simp [n_R_p]))
 have Re5_T := zh (hk.at Re4_T.out (by simp [n_T_p]))
 have HKe5 := zh (HKe4.out.trans hk (by simp))
 have HPne5 := zh hp
 have ne5 := zh hn.seg
 have o_n : w.heap.size ≤ e4.heap.size := HKe4.out.size
 have ns_n_p : ¬ (Seg e4.heap.size e5.heap.size) (p) := fun h => Nat.not_lt_of_le h.1 (h_lt HPe4.out.row)
 have ns_n_R : ¬ (Seg e4.heap.size e5.heap.size) (w.heap.size) := fun h => Nat.not_lt_of_le h.1 (h_lt Re4_R.out)
 have ns_n_T : ¬ (Seg e4.heap.size e5.heap.size) (e2.heap.size) := fun h => Nat.not_lt_of_le h.1 (h_lt Re4_T.out)
 have up_n : ∀ g, (Seg e4.heap.size e5.heap.size) g → g < e5.heap.size := fun _ h => h.2
 have dn_n : ∀ g, (Seg e4.heap.size e5.heap.size) g → w.heap.size ≤ g := fun _ h => Nat.le_trans o_n h.1
 obtain ⟨nt, nm, na, nl, nc, nr, ni, rfl, -, -⟩ := hn.shape
 clear hn hp
 clear hk Re4_R Re4_T HKe4 HPe4
 have l_p := h_lt HPne5.out.row
 obtain ⟨l_R, xR_0, xR_1, xR_2, xR_3, xR_4, yR_0, yR_1, yR_2, yR_3, yR_4⟩ := cf5 Re5_R.out
 have l_T := h_lt Re5_T.out
 go_wp2_with fail
 refine ret_at (v := .agg #[.int .i64 n.kind, .string nt, .float .f64 nm, .slice na nl nc, .complex .f64 nr ni]) (fun W => Keeps [w.heap.size] e5 W ∧ W.heap[w.heap.size]? = some (.cells #[.int .i64 n.kind, .string nt, .float .f64 nm, .slice na nl nc, .complex .f64 nr ni] 50 (0, 0))) ⟨(by with_reducible repeat (first | exact k0 _ _ | refine kA ?_ _ | refine kD ?_ | refine kS ?_ (by simp) | refine kM ?_ (by simp))), (by simp only [hS, hA, hD, hM, reduceIte, Option.map_some, Obj.put, Re5_R.out, Nat.ne_of_lt l_R, Nat.ne_of_gt l_R] <;> rfl)⟩ (fun w6 hW => ?_) rfl (fun w6 hW => ?_)
 ·obtain ⟨Kw6, cw6_R⟩ := hW
  have q0 := cell_of_heap cw6_R 0
  have q1 := cell_of_heap cw6_R 1
  have q2 := cell_of_heap cw6_R 2
  have q3 := cell_of_heap cw6_R 3
  have q4 := cell_of_heap cw6_R 4
  simp at q0 q1 q2 q3 q4
  simp [results, Tryz.results294, go_sem, q0, q1, q2, q3, q4]
 ·obtain ⟨Kw6, cw6_R⟩ := hW
  have Rw6_T := zh (Kw6.at Re5_T.out (by simp [n_T_R]))
  have HKw6 := zh (HKe5.out.trans Kw6 (by simp [o_R]))
  have HPw6 := zh (HPne5.out.keepN Kw6 (by simp [n_p_R]) (by simp [g_R]))
  have nw6 := zh (ne5.out.kp Kw6 (by simp [ns_n_R]))
  have us_nw6 := Nat.le_trans (Nat.le_refl e5.heap.size) Kw6.size
  have Rw6_R := zh cw6_R
  clear Kw6 cw6_R l_p l_R xR_0 xR_1 xR_2 xR_3 xR_4 yR_0 yR_1 yR_2 yR_3 yR_4 l_T Re5_T HKe5 HPne5 ne5 Re5_R
  exact ⟨_, rfl, nw6.out.to dn_n, HPw6.out, HKw6.out⟩

theorem operand_call7 {s : ByteArray} {p : Nat} {st : PSt} {tx : ByteArray} {nm fr te : Nat} (ht : nextF s st.pos true = some ⟨7, tx, nm, fr, te⟩) {st2 : PSt} {n : Node} (hc : CallH s p ⟨7, tx, nm, fr, te⟩ (placeOf s fr).1 (placeOf s fr).2 st st2 n) : Hands s p st st2 n 294 := by
 intro w h
 have g_p := h.p
 obtain ⟨le1, le2, -⟩ := nextF_le ht h.le
 simp only at le1 le2
 have le3 := Nat.le_trans le1 le2
 have HP0 := zh h; have HK0 := zh (Keeps.refl [p] w); have HT := zh ht; have HC := zh hc
 clear h ht le1 hc

 go_enter Tryz.func294, Tryz.ntmps294
 have l_p := h_lt HP0.out.row
 go_wp2_with fail
 refine calls_at (fun W => Keeps [] w W ∧ W.heap[w.heap.size]? = some (.cells #[.int .i64 0, .string ⟨#[]⟩, .float .f64 0, .slice none 0 0, .complex .f64 0 0] 50 (0, 0))) ⟨(by with_reducible repeat (first | exact k0 _ _ | refine kA ?_ _ | refine kD ?_ | refine kS ?_ (by simp) | refine kM ?_ (by simp))), (by simp only [hS, hA, hD, hM, World.size_setCell, World.size_drew, reduceIte, Option.map_some, Obj.put] <;> rfl)⟩ ?_
 rintro w1 ⟨Kw1, cw1_R⟩
 have ⟨n_p_R, n_R_p⟩ := zne l_p
 have o_R : w.heap.size ≤ w.heap.size := Nat.le_refl _
 have g_R : 14 < w.heap.size := Nat.lt_trans g_p l_p
 have HKw1 := zh (HK0.out.trans Kw1 (by simp))
 have HPw1 := zh (HP0.out.keep Kw1)
 have Rw1_R := zh cw1_R
 clear Kw1 cw1_R l_p HK0 HP0
 refine (see_any HPw1.out HT.out).mono ?_
 rintro r e2 ⟨rfl, hk⟩
 have Re2_R := zh (hk.at Rw1_R.out (by simp))
 have HKe2 := zh (HKw1.out.trans hk (by simp))
 have HPe2 := zh (HPw1.out.keep hk)
 clear hk Rw1_R HKw1 HPw1
 have l_p := h_lt HPe2.out.row
 have l_R := h_lt Re2_R.out
 go_wp2_with fail
 refine calls_at (fun W => Keeps [] e2 W ∧ W.heap[e2.heap.size]? = some (.cells #[.int .i64 7, .string tx, .float .f64 nm, .int .i64 fr, .int .i64 te] 90 (0, 0))) ⟨(by with_reducible repeat (first | exact k0 _ _ | refine kA ?_ _ | refine kD ?_ | refine kS ?_ (by simp) | refine kM ?_ (by simp))), (by simp only [hS, hA, hD, hM, World.size_setCell, World.size_drew, reduceIte, Option.map_some, Obj.put] <;> rfl)⟩ ?_
 rintro w3 ⟨Kw3, cw3_T⟩
 have ⟨n_p_T, n_T_p⟩ := zne l_p
 have ⟨n_R_T, n_T_R⟩ := zne l_R
 have o_T : w.heap.size ≤ e2.heap.size := HKe2.out.size
 have g_T : 14 < e2.heap.size := Nat.lt_trans g_p l_p
 have Rw3_R := zh (Kw3.at Re2_R.out (by simp))
 have HKw3 := zh (HKe2.out.trans Kw3 (by simp))
 have HPw3 := zh (HPe2.out.keep Kw3)
 have Rw3_T := zh cw3_T
 clear Kw3 cw3_T l_p l_R Re2_R HKe2 HPe2
 refine (ok_any HPw3.out).mono ?_
 rintro r w' ⟨rfl, hw'⟩
 rw [hw']
 clear hw'
 have l_p := h_lt HPw3.out.row
 have l_R := h_lt Rw3_R.out
 obtain ⟨l_T, xT_0, xT_1, xT_2, xT_3, xT_4, yT_0, yT_1, yT_2, yT_3, yT_4⟩ := cf5 Rw3_T.out
 go_wp2_with fail
 clear l_p l_R l_T xT_0 xT_1 xT_2 xT_3 xT_4 yT_0 yT_1 yT_2 yT_3 yT_4
 refine (place_tok HPw3.out ⟨7, tx, nm, fr, te⟩ le3).mono ?_
 rintro r e4 ⟨rfl, hk⟩
 have Re4_R := zh (hk.at Rw3_R.out (by simp))
 have Re4_T := zh (hk.at Rw3_T.out (by simp))
 have HKe4 := zh (HKw3.out.trans hk (by simp))
 have HPe4 := zh (HPw3.out.keep hk)
 clear hk Rw3_R Rw3_T HKw3 HPw3
 have l_p := h_lt HPe4.out.row
 have l_R := h_lt Re4_R.out
 obtain ⟨l_T, xT_0, xT_1, xT_2, xT_3, xT_4, yT_0, yT_1, yT_2, yT_3, yT_4⟩ := cf5 Re4_T.out
 go_wp2_with fail
 clear l_p l_R l_T xT_0 xT_1 xT_2 xT_3 xT_4 yT_0 yT_1 yT_2 yT_3 yT_4
 refine (HC.out _ HPe4.out).mono ?_
 rintro r e5 ⟨v, rfl, hn, hp, hk⟩
 have Re5_R := zh (hk.at Re4_R.out (by simp [n_R_p]))
 have Re5_T := zh (hk.at Re4_T.out (by simp [n_T_p]))
 have HKe5 := zh (HKe4.out.trans hk (by simp))
 have HPne5 := zh hp
 have ne5 := zh hn.seg
 have o_n : w.heap.size ≤ e4.heap.size := HKe4.out.size
 have ns_n_p : ¬ (Seg e4.heap.size e5.heap.size) (p) := fun h => Nat.not_lt_of_le h.1 (h_lt HPe4.out.row)
 have ns_n_R : ¬ (Seg e4.heap.size e5.heap.size) (w.heap.size) := fun h => Nat.not_lt_of_le h.1 (h_lt Re4_R.out)
 have ns_n_T : ¬ (Seg e4.heap.size e5.heap.size) (e2.heap.size) := fun h => Nat.not_lt_of_le h.1 (h_lt Re4_T.out)
 have up_n : ∀ g, (Seg e4.heap.size e5.heap.size) g → g < e5.heap.size := fun _ h => h.2
 have dn_n : ∀ g, (Seg e4.heap.size e5.heap.size) g → w.heap.size ≤ g := fun _ h => Nat.le_trans o_n h.1
 obtain ⟨nt, nm, na, nl, nc, nr, ni, rfl, -, -⟩ := hn.shape
 clear hn hp
 clear hk Re4_R Re4_T HKe4 HPe4
 have l_p := h_lt HPne5.out.row
 obtain ⟨l_R, xR_0, xR_1, xR_2, xR_3, xR_4, yR_0, yR_1, yR_2, yR_3, yR_4⟩ := cf5 Re5_R.out
 have l_T := h_lt Re5_T.out
 go_wp2_with fail
 refine ret_at (v := .agg #[.int .i64 n.kind, .string nt, .float .f64 nm, .slice na nl nc, .complex .f64 nr ni]) (fun W => Keeps [w.heap.size] e5 W ∧ W.heap[w.heap.size]? = some (.cells #[.int .i64 n.kind, .string nt, .float .f64 nm, .slice na nl nc, .complex .f64 nr ni] 50 (0, 0))) ⟨(by with_reducible repeat (first | exact k0 _ _ | refine kA ?_ _ | refine kD ?_ | refine kS ?_ (by simp) | refine kM ?_ (by simp))), (by simp only [hS, hA, hD, hM, reduceIte, Option.map_some, Obj.put, Re5_R.out, Nat.ne_of_lt l_R, Nat.ne_of_gt l_R] <;> rfl)⟩ (fun w6 hW => ?_) rfl (fun w6 hW => ?_)
 ·obtain ⟨Kw6, cw6_R⟩ := hW
  have q0 := cell_of_heap cw6_R 0
  have q1 := cell_of_heap cw6_R 1
  have q2 := cell_of_heap cw6_R 2
  have q3 := cell_of_heap cw6_R 3
  have q4 := cell_of_heap cw6_R 4
  simp at q0 q1 q2 q3 q4
  simp [results, Tryz.results294, go_sem, q0, q1, q2, q3, q4]
 ·obtain ⟨Kw6, cw6_R⟩ := hW
  have Rw6_T := zh (Kw6.at Re5_T.out (by simp [n_T_R]))
  have HKw6 := zh (HKe5.out.trans Kw6 (by simp [o_R]))
  have HPw6 := zh (HPne5.out.keepN Kw6 (by simp [n_p_R]) (by simp [g_R]))
  have nw6 := zh (ne5.out.kp Kw6 (by simp [ns_n_R]))
  have us_nw6 := Nat.le_trans (Nat.le_refl e5.heap.size) Kw6.size
  have Rw6_R := zh cw6_R
  clear Kw6 cw6_R l_p l_R xR_0 xR_1 xR_2 xR_3 xR_4 yR_0 yR_1 yR_2 yR_3 yR_4 l_T Re5_T HKe5 HPne5 ne5 Re5_R
  exact ⟨_, rfl, nw6.out.to dn_n, HPw6.out, HKw6.out⟩
end Go.Proofs.YtkfillfkbhbbjaaGreatDoor
namespace Go.Proofs.YtkfillfkbhbbjaaGreatDoor
open Go.RowKit

theorem call_6n {s : ByteArray} {p : Nat} {st st1 st3 : PSt} {tx : ByteArray} {nm fr te re im : Nat} (le2 : te ≤ s.size) (hs1 : (tx.toList == [115, 121, 115, 116, 101, 109]) = false) (hs2 : (tx.toList == [108, 101, 110, 103, 116, 104]) = false) (hw : wantF s ⟨te, st.opn, st.ng⟩ ⟨#[40]⟩ = some st1) (hb : isF s st1 ⟨#[41]⟩ = some true) (hv : wantF s st1 ⟨#[41]⟩ = some st3) :
  CallH s p ⟨6, tx, nm, fr, te⟩ re im st st3 (.mk 19 tx 0 [] re im) := by
 intro w h
 have g_p := h.p
 have HP0 := zh h; have HK0 := zh (Keeps.refl [p] w); have HW := zh hw; have HB := zh hb; have HV := zh hv
 clear h hw hb hv
 go_enter Tryz.func295, Tryz.ntmps295
 obtain ⟨l_p, xp_0, xp_1, xp_2, xp_3, xp_4, xp_5, yp_0, yp_1, yp_2, yp_3, yp_4, yp_5⟩ := cf6 HP0.out.row
 have l_p_1 : p < w.heap.size + 1 := Nat.lt_add_right 1 l_p
 have l_p_2 : p < w.heap.size + 2 := Nat.lt_add_right 2 l_p
 go_wp2_with fail
 refine calls_at (fun W => Keeps [p] w W ∧ W.heap[p]? = some (.cells #[.string s, .int .i64 te, .int .i64 st.opn, .bool st.ng, .int .i64 0, .complex .f64 0 0] 87 (0, 0)) ∧ W.heap[w.heap.size]? = some (.cells #[.int .i64 6, .string tx, .float .f64 nm, .int .i64 fr, .int .i64 te] 90 (0, 0)) ∧ W.heap[w.heap.size + 1]? = some (.cells #[.int .i64 0, .string ⟨#[]⟩, .float .f64 0, .slice none 0 0, .complex .f64 0 0] 50 (0, 0)) ∧ W.heap[w.heap.size + 2]? = some (.cells #[.int .i64 19, .string tx, .float .f64 0, .slice none 0 0, .complex .f64 re im] 50 (0, 0))) ⟨(by with_reducible repeat (first | exact k0 _ _ | refine kA ?_ _ | refine kD ?_ | refine kS ?_ (by simp) | refine kM ?_ (by simp))), (by simp only [hS, hA, hD, hM, World.size_alloc, World.size_setCell, World.size_drew, size_mset, Nat.add_right_cancel_iff, Nat.left_eq_add, Nat.add_eq_left, Nat.reduceEqDiff, Nat.add_assoc, Nat.reduceAdd, Nat.one_ne_zero, Nat.zero_ne_one, reduceIte, Option.map_some, Obj.put, HP0.out.row, Nat.ne_of_lt l_p, Nat.ne_of_gt l_p, Nat.ne_of_lt (Nat.lt_add_right 1 l_p), Nat.ne_of_gt (Nat.lt_add_right 1 l_p), Nat.ne_of_lt (Nat.lt_add_right 2 l_p), Nat.ne_of_gt (Nat.lt_add_right 2 l_p)] <;> rfl), (by simp only [hS, hA, hD, hM, World.size_alloc, World.size_setCell, World.size_drew, size_mset, Nat.add_right_cancel_iff, Nat.left_eq_add, Nat.add_eq_left, Nat.reduceEqDiff, Nat.add_assoc, Nat.reduceAdd, Nat.one_ne_zero, Nat.zero_ne_one, reduceIte, Option.map_some, Obj.put, HP0.out.row, Nat.ne_of_lt l_p, Nat.ne_of_gt l_p, Nat.ne_of_lt (Nat.lt_add_right 1 l_p), Nat.ne_of_gt (Nat.lt_add_right 1 l_p), Nat.ne_of_lt (Nat.lt_add_right 2 l_p), Nat.ne_of_gt (Nat.lt_add_right 2 l_p)] <;> rfl), (by simp only [hS, hA, hD, hM, World.size_alloc, World.size_setCell, World.size_drew, size_mset, Nat.add_right_cancel_iff, Nat.left_eq_add, Nat.add_eq_left, Nat.reduceEqDiff, Nat.add_assoc, Nat.reduceAdd, Nat.one_ne_zero, Nat.zero_ne_one, reduceIte, Option.map_some, Obj.put, HP0.out.row, Nat.ne_of_lt l_p, Nat.ne_of_gt l_p, Nat.ne_of_lt (Nat.lt_add_right 1 l_p), Nat.ne_of_gt (Nat.lt_add_right 1 l_p), Nat.ne_of_lt (Nat.lt_add_right 2 l_p), Nat.ne_of_gt (Nat.lt_add_right 2 l_p)] <;> rfl), (by simp only [hS, hA, hD, hM, World.size_alloc, World.size_setCell, World.size_drew, size_mset, Nat.add_right_cancel_iff, Nat.left_eq_add, Nat.add_eq_left, Nat.reduceEqDiff, Nat.add_assoc, Nat.reduceAdd, Nat.one_ne_zero, Nat.zero_ne_one, reduceIte, Option.map_some, Obj.put, HP0.out.row, Nat.ne_of_lt l_p, Nat.ne_of_gt l_p, Nat.ne_of_lt (Nat.lt_add_right 1 l_p), Nat.ne_of_gt (Nat.lt_add_right 1 l_p), Nat.ne_of_lt (Nat.lt_add_right 2 l_p), Nat.ne_of_gt (Nat.lt_add_right 2 l_p)] <;> rfl)⟩ ?_
 rintro w1 ⟨Kw1, cw1_p, cw1_T, cw1_R, cw1_B⟩
 have ⟨n_p_T, n_T_p⟩ := zne l_p
 have o_T : w.heap.size ≤ w.heap.size := Nat.le_refl _
 have g_T : 14 < w.heap.size := Nat.lt_trans g_p l_p
 have ⟨n_p_R, n_R_p⟩ := zne (Nat.lt_add_right 1 l_p)
 have n_T_R : w.heap.size ≠ w.heap.size + 1 := by simp
 have n_R_T : w.heap.size + 1 ≠ w.heap.size := by simp
 have o_R : w.heap.size ≤ w.heap.size + 1 := Nat.le_trans (Nat.le_refl _) (Nat.le_add_right _ 1)
 have g_R : 14 < w.heap.size + 1 := Nat.lt_trans g_p (Nat.lt_add_right 1 l_p)
 have ⟨n_p_B, n_B_p⟩ := zne (Nat.lt_add_right 2 l_p)
 have n_T_B : w.heap.size ≠ w.heap.size + 2 := by simp
 have n_B_T : w.heap.size + 2 ≠ w.heap.size := by simp
 have n_R_B : w.heap.size + 1 ≠ w.heap.size + 2 := by simp
 have n_B_R : w.heap.size + 2 ≠ w.heap.size + 1 := by simp
 have o_B : w.heap.size ≤ w.heap.size + 2 := Nat.le_trans (Nat.le_refl _) (Nat.le_add_right _ 2)
 have g_B : 14 < w.heap.size + 2 := Nat.lt_trans g_p (Nat.lt_add_right 2 l_p)
 have HKw1 := zh (HK0.out.trans Kw1 (by simp))
 have HPw1 : Hid (PP s p ⟨te, st.opn, st.ng⟩ w1) := zh (HP0.out.upd Kw1 (by simp [g_p]) cw1_p (by first | assumption | exact HP0.out.le) HP0.out.ob)
 have Rw1_T := zh cw1_T
 have Rw1_R := zh cw1_R
 have Rw1_B := zh cw1_B
 clear Kw1 cw1_p cw1_T cw1_R cw1_B l_p l_p_1 l_p_2 xp_0 xp_1 xp_2 xp_3 xp_4 xp_5 yp_0 yp_1 yp_2 yp_3 yp_4 yp_5 HK0 HP0
 refine (want_any HPw1.out HW.out).mono ?_
 rintro r e2 ⟨rfl, hp, hk⟩
 have Re2_T := zh (hk.at Rw1_T.out (by simp [n_T_p]))
 have Re2_R := zh (hk.at Rw1_R.out (by simp [n_R_p]))
 have Re2_B := zh (hk.at Rw1_B.out (by simp [n_B_p]))
 have HKe2 := zh (HKw1.out.trans hk (by simp))
 have HPne2 := zh hp
 clear hp
 clear hk Rw1_T Rw1_R Rw1_B HKw1 HPw1
 have l_p := h_lt HPne2.out.row
 have l_T := h_lt Re2_T.out
 have l_R := h_lt Re2_R.out
 have l_B := h_lt Re2_B.out
 go_wp2_with fail
 clear l_p l_T l_R l_B
 refine (isF_any HPne2.out HB.out).mono ?_
 rintro r e3 ⟨rfl, hk⟩
 have Re3_T := zh (hk.at Re2_T.out (by simp))
 have Re3_R := zh (hk.at Re2_R.out (by simp))
 have Re3_B := zh (hk.at Re2_B.out (by simp))
 have HKe3 := zh (HKe2.out.trans hk (by simp))
 have HPe3 := zh (HPne2.out.keep hk)
 clear hk Re2_T Re2_R Re2_B HKe2 HPne2
 have l_p := h_lt HPe3.out.row
 have l_T := h_lt Re3_T.out
 have l_R := h_lt Re3_R.out
 have l_B := h_lt Re3_B.out
 go_wp2_with fail
 clear l_p l_T l_R l_B
 refine (want_any HPe3.out HV.out).mono ?_
 rintro r e4 ⟨rfl, hp, hk⟩
 have Re4_T := zh (hk.at Re3_T.out (by simp [n_T_p]))
 have Re4_R := zh (hk.at Re3_R.out (by simp [n_R_p]))
 have Re4_B := zh (hk.at Re3_B.out (by simp [n_B_p]))
 have HKe4 := zh (HKe3.out.trans hk (by simp))
 have HPne4 := zh hp
 clear hp
 clear hk Re3_T Re3_R Re3_B HKe3 HPe3
 have l_p := h_lt HPne4.out.row
 have l_T := h_lt Re4_T.out
 obtain ⟨l_R, xR_0, xR_1, xR_2, xR_3, xR_4, yR_0, yR_1, yR_2, yR_3, yR_4⟩ := cf5 Re4_R.out
 obtain ⟨l_B, xB_0, xB_1, xB_2, xB_3, xB_4, yB_0, yB_1, yB_2, yB_3, yB_4⟩ := cf5 Re4_B.out
 go_wp2_with fail
 refine ret_at (v := .agg #[.int .i64 19, .string tx, .float .f64 0, .slice none 0 0, .complex .f64 re im]) (fun W => Keeps [w.heap.size + 1] e4 W ∧ W.heap[w.heap.size + 1]? = some (.cells #[.int .i64 19, .string tx, .float .f64 0, .slice none 0 0, .complex .f64 re im] 50 (0, 0))) ⟨(by with_reducible repeat (first | exact k0 _ _ | refine kA ?_ _ | refine kD ?_ | refine kS ?_ (by simp) | refine kM ?_ (by simp))), (by simp only [hS, hA, hD, hM, reduceIte, Option.map_some, Obj.put, Re4_R.out, Nat.ne_of_lt l_R, Nat.ne_of_gt l_R] <;> rfl)⟩ (fun w5 hW => ?_) rfl (fun w5 hW => ?_)
 ·obtain ⟨Kw5, cw5_R⟩ := hW
  have q0 := cell_of_heap cw5_R 0
  have q1 := cell_of_heap cw5_R 1
  have q2 := cell_of_heap cw5_R 2
  have q3 := cell_of_heap cw5_R 3
  have q4 := cell_of_heap cw5_R 4
  simp at q0 q1 q2 q3 q4
  simp [results, Tryz.results295, go_sem, q0, q1, q2, q3, q4]
 ·obtain ⟨Kw5, cw5_R⟩ := hW
  have Rw5_T := zh (Kw5.at Re4_T.out (by simp [n_T_R]))
  have Rw5_B := zh (Kw5.at Re4_B.out (by simp [n_B_R]))
  have HKw5 := zh (HKe4.out.trans Kw5 (by simp [o_R]))
  have HPw5 := zh (HPne4.out.keepN Kw5 (by simp [n_p_R]) (by simp [g_R]))
  have Rw5_R := zh cw5_R
  clear Kw5 cw5_R l_p l_T l_R xR_0 xR_1 xR_2 xR_3 xR_4 yR_0 yR_1 yR_2 yR_3 yR_4 l_B xB_0 xB_1 xB_2 xB_3 xB_4 yB_0 yB_1 yB_2 yB_3 yB_4 Re4_T Re4_B HKe4 HPne4 Re4_R
  exact ⟨_, rfl, .mk .nil, HPw5.out, HKw5.out⟩

theorem call_6a {s : ByteArray} {p : Nat} {st st1 st2 st3 : PSt} {tx : ByteArray} {nm fr te re im : Nat} {l : List Node} (le2 : te ≤ s.size) (hs1 : (tx.toList == [115, 121, 115, 116, 101, 109]) = false) (hs2 : (tx.toList == [108, 101, 110, 103, 116, 104]) = false) (hw : wantF s ⟨te, st.opn, st.ng⟩ ⟨#[40]⟩ = some st1) (hb : isF s st1 ⟨#[41]⟩ = some false) (hl : Lists s p st1 st2 l 224 [.bool false]) (hv : wantF s st2 ⟨#[41]⟩ = some st3) :
  CallH s p ⟨6, tx, nm, fr, te⟩ re im st st3 (.mk 19 tx 0 l re im) := by
 intro w h
 have g_p := h.p
 have HP0 := zh h; have HK0 := zh (Keeps.refl [p] w); have HW := zh hw; have HB := zh hb; have HV := zh hv; have HL := zh hl
 clear h hw hb hv hl
 go_enter Tryz.func295, Tryz.ntmps295
 obtain ⟨l_p, xp_0, xp_1, xp_2, xp_3, xp_4, xp_5, yp_0, yp_1, yp_2, yp_3, yp_4, yp_5⟩ := cf6 HP0.out.row
 have l_p_1 : p < w.heap.size + 1 := Nat.lt_add_right 1 l_p
 have l_p_2 : p < w.heap.size + 2 := Nat.lt_add_right 2 l_p
 go_wp2_with fail
 refine calls_at (fun W => Keeps [p] w W ∧ W.heap[p]? = some (.cells #[.string s, .int .i64 te, .int .i64 st.opn, .bool st.ng, .int .i64 0, .complex .f64 0 0] 87 (0, 0)) ∧ W.heap[w.heap.size]? = some (.cells #[.int .i64 6, .string tx, .float .f64 nm, .int .i64 fr, .int .i64 te] 90 (0, 0)) ∧ W.heap[w.heap.size + 1]? = some (.cells #[.int .i64 0, .string ⟨#[]⟩, .float .f64 0, .slice none 0 0, .complex .f64 0 0] 50 (0, 0)) ∧ W.heap[w.heap.size + 2]? = some (.cells #[.int .i64 19, .string tx, .float .f64 0, .slice none 0 0, .complex .f64 re im] 50 (0, 0))) ⟨(by with_reducible repeat (first | exact k0 _ _ | refine kA ?_ _ | refine kD ?_ | refine kS ?_ (by simp) | refine kM ?_ (by simp))), (by simp only [hS, hA, hD, hM, World.size_alloc, World.size_setCell, World.size_drew, size_mset, Nat.add_right_cancel_iff, Nat.left_eq_add, Nat.add_eq_left, Nat.reduceEqDiff, Nat.add_assoc, Nat.reduceAdd, Nat.one_ne_zero, Nat.zero_ne_one, reduceIte, Option.map_some, Obj.put, HP0.out.row, Nat.ne_of_lt l_p, Nat.ne_of_gt l_p, Nat.ne_of_lt (Nat.lt_add_right 1 l_p), Nat.ne_of_gt (Nat.lt_add_right 1 l_p), Nat.ne_of_lt (Nat.lt_add_right 2 l_p), Nat.ne_of_gt (Nat.lt_add_right 2 l_p)] <;> rfl), (by simp only [hS, hA, hD, hM, World.size_alloc, World.size_setCell, World.size_drew, size_mset, Nat.add_right_cancel_iff, Nat.left_eq_add, Nat.add_eq_left, Nat.reduceEqDiff, Nat.add_assoc, Nat.reduceAdd, Nat.one_ne_zero, Nat.zero_ne_one, reduceIte, Option.map_some, Obj.put, HP0.out.row, Nat.ne_of_lt l_p, Nat.ne_of_gt l_p, Nat.ne_of_lt (Nat.lt_add_right 1 l_p), Nat.ne_of_gt (Nat.lt_add_right 1 l_p), Nat.ne_of_lt (Nat.lt_add_right 2 l_p), Nat.ne_of_gt (Nat.lt_add_right 2 l_p)] <;> rfl), (by simp only [hS, hA, hD, hM, World.size_alloc, World.size_setCell, World.size_drew, size_mset, Nat.add_right_cancel_iff, Nat.left_eq_add, Nat.add_eq_left, Nat.reduceEqDiff, Nat.add_assoc, Nat.reduceAdd, Nat.one_ne_zero, Nat.zero_ne_one, reduceIte, Option.map_some, Obj.put, HP0.out.row, Nat.ne_of_lt l_p, Nat.ne_of_gt l_p, Nat.ne_of_lt (Nat.lt_add_right 1 l_p), Nat.ne_of_gt (Nat.lt_add_right 1 l_p), Nat.ne_of_lt (Nat.lt_add_right 2 l_p), Nat.ne_of_gt (Nat.lt_add_right 2 l_p)] <;> rfl), (by simp only [hS, hA, hD, hM, World.size_alloc, World.size_setCell, World.size_drew, size_mset, Nat.add_right_cancel_iff, Nat.left_eq_add, Nat.add_eq_left, Nat.reduceEqDiff, Nat.add_assoc, Nat.reduceAdd, Nat.one_ne_zero, Nat.zero_ne_one, reduceIte, Option.map_some, Obj.put, HP0.out.row, Nat.ne_of_lt l_p, Nat.ne_of_gt l_p, Nat.ne_of_lt (Nat.lt_add_right 1 l_p), Nat.ne_of_gt (Nat.lt_add_right 1 l_p), Nat.ne_of_lt (Nat.lt_add_right 2 l_p), Nat.ne_of_gt (Nat.lt_add_right 2 l_p)] <;> rfl)⟩ ?_
 rintro w1 ⟨Kw1, cw1_p, cw1_T, cw1_R, cw1_B⟩
 have ⟨n_p_T, n_T_p⟩ := zne l_p
 have o_T : w.heap.size ≤ w.heap.size := Nat.le_refl _
 have g_T : 14 < w.heap.size := Nat.lt_trans g_p l_p
 have ⟨n_p_R, n_R_p⟩ := zne (Nat.lt_add_right 1 l_p)
 have n_T_R : w.heap.size ≠ w.heap.size + 1 := by simp
 have n_R_T : w.heap.size + 1 ≠ w.heap.size := by simp
 have o_R : w.heap.size ≤ w.heap.size + 1 := Nat.le_trans (Nat.le_refl _) (Nat.le_add_right _ 1)
 have g_R : 14 < w.heap.size + 1 := Nat.lt_trans g_p (Nat.lt_add_right 1 l_p)
 have ⟨n_p_B, n_B_p⟩ := zne (Nat.lt_add_right 2 l_p)
 have n_T_B : w.heap.size ≠ w.heap.size + 2 := by simp
 have n_B_T : w.heap.size + 2 ≠ w.heap.size := by simp
 have n_R_B : w.heap.size + 1 ≠ w.heap.size + 2 := by simp
 have n_B_R : w.heap.size + 2 ≠ w.heap.size + 1 := by simp
 have o_B : w.heap.size ≤ w.heap.size + 2 := Nat.le_trans (Nat.le_refl _) (Nat.le_add_right _ 2)
 have g_B : 14 < w.heap.size + 2 := Nat.lt_trans g_p (Nat.lt_add_right 2 l_p)
 have HKw1 := zh (HK0.out.trans Kw1 (by simp))
 have HPw1 : Hid (PP s p ⟨te, st.opn, st.ng⟩ w1) := zh (HP0.out.upd Kw1 (by simp [g_p]) cw1_p (by first | assumption | exact HP0.out.le) HP0.out.ob)
 have Rw1_T := zh cw1_T
 have Rw1_R := zh cw1_R
 have Rw1_B := zh cw1_B
 clear Kw1 cw1_p cw1_T cw1_R cw1_B l_p l_p_1 l_p_2 xp_0 xp_1 xp_2 xp_3 xp_4 xp_5 yp_0 yp_1 yp_2 yp_3 yp_4 yp_5 HK0 HP0
 refine (want_any HPw1.out HW.out).mono ?_
 rintro r e2 ⟨rfl, hp, hk⟩
 have Re2_T := zh (hk.at Rw1_T.out (by simp [n_T_p]))
 have Re2_R := zh (hk.at Rw1_R.out (by simp [n_R_p]))
 have Re2_B := zh (hk.at Rw1_B.out (by simp [n_B_p]))
 have HKe2 := zh (HKw1.out.trans hk (by simp))
 have HPne2 := zh hp
 clear hp
 clear hk Rw1_T Rw1_R Rw1_B HKw1 HPw1
 have l_p := h_lt HPne2.out.row
 have l_T := h_lt Re2_T.out
 have l_R := h_lt Re2_R.out
 have l_B := h_lt Re2_B.out
 go_wp2_with fail
 clear l_p l_T l_R l_B
 refine (isF_any HPne2.out HB.out).mono ?_
 rintro r e3 ⟨rfl, hk⟩
 have Re3_T := zh (hk.at Re2_T.out (by simp))
 have Re3_R := zh (hk.at Re2_R.out (by simp))
 have Re3_B := zh (hk.at Re2_B.out (by simp))
 have HKe3 := zh (HKe2.out.trans hk (by simp))
 have HPe3 := zh (HPne2.out.keep hk)
 clear hk Re2_T Re2_R Re2_B HKe2 HPne2
 have l_p := h_lt HPe3.out.row
 have l_T := h_lt Re3_T.out
 have l_R := h_lt Re3_R.out
 have l_B := h_lt Re3_B.out
 go_wp2_with fail
 clear l_p l_T l_R l_B
 refine (HL.out _ HPe3.out).mono ?_
 rintro r e4 ⟨v, rfl, hn, hp, hk⟩
 have Re4_T := zh (hk.at Re3_T.out (by simp [n_T_p]))
 have Re4_R := zh (hk.at Re3_R.out (by simp [n_R_p]))
 have Re4_B := zh (hk.at Re3_B.out (by simp [n_B_p]))
 have HKe4 := zh (HKe3.out.trans hk (by simp))
 have HPne4 := zh hp
 have le4 := zh hn.seg
 have o_l : w.heap.size ≤ e3.heap.size := HKe3.out.size
 have ns_l_p : ¬ (Seg e3.heap.size e4.heap.size) (p) := fun h => Nat.not_lt_of_le h.1 (h_lt HPe3.out.row)
 have ns_l_T : ¬ (Seg e3.heap.size e4.heap.size) (w.heap.size) := fun h => Nat.not_lt_of_le h.1 (h_lt Re3_T.out)
 have ns_l_R : ¬ (Seg e3.heap.size e4.heap.size) (w.heap.size + 1) := fun h => Nat.not_lt_of_le h.1 (h_lt Re3_R.out)
 have ns_l_B : ¬ (Seg e3.heap.size e4.heap.size) (w.heap.size + 2) := fun h => Nat.not_lt_of_le h.1 (h_lt Re3_B.out)
 have up_l : ∀ g, (Seg e3.heap.size e4.heap.size) g → g < e4.heap.size := fun _ h => h.2
 have dn_l : ∀ g, (Seg e3.heap.size e4.heap.size) g → w.heap.size ≤ g := fun _ h => Nat.le_trans o_l h.1
 obtain ⟨la, ll, lc, rfl⟩ := hn.slice
 clear hn hp
 clear hk Re3_T Re3_R Re3_B HKe3 HPe3
 have l_p := h_lt HPne4.out.row
 have l_T := h_lt Re4_T.out
 have l_R := h_lt Re4_R.out
 obtain ⟨l_B, xB_0, xB_1, xB_2, xB_3, xB_4, yB_0, yB_1, yB_2, yB_3, yB_4⟩ := cf5 Re4_B.out
 go_wp2_with fail
 refine calls_at (fun W => Keeps [w.heap.size + 2] e4 W ∧ W.heap[w.heap.size + 2]? = some (.cells #[.int .i64 19, .string tx, .float .f64 0, .slice la ll lc, .complex .f64 re im] 50 (0, 0))) ⟨(by with_reducible repeat (first | exact k0 _ _ | refine kA ?_ _ | refine kD ?_ | refine kS ?_ (by simp) | refine kM ?_ (by simp))), (by simp only [hS, hA, hD, hM, reduceIte, Option.map_some, Obj.put, Re4_B.out, Nat.ne_of_lt l_B, Nat.ne_of_gt l_B] <;> rfl)⟩ ?_
 rintro w5 ⟨Kw5, cw5_B⟩
 have Rw5_T := zh (Kw5.at Re4_T.out (by simp [n_T_B]))
 have Rw5_R := zh (Kw5.at Re4_R.out (by simp [n_R_B]))
 have HKw5 := zh (HKe4.out.trans Kw5 (by simp [o_B]))
 have HPw5 := zh (HPne4.out.keepN Kw5 (by simp [n_p_B]) (by simp [g_B]))
 have lw5 := zh (le4.out.kp Kw5 (by simp [ns_l_B]))
 have us_lw5 := Nat.le_trans (Nat.le_refl e4.heap.size) Kw5.size
 have Rw5_B := zh cw5_B
 clear Kw5 cw5_B l_p l_T l_R l_B xB_0 xB_1 xB_2 xB_3 xB_4 yB_0 yB_1 yB_2 yB_3 yB_4 Re4_T Re4_R HKe4 HPne4 le4 Re4_B
 refine (want_any HPw5.out HV.out).mono ?_
 rintro r e6 ⟨rfl, hp, hk⟩
 have Re6_T := zh (hk.at Rw5_T.out (by simp [n_T_p]))
 have Re6_R := zh (hk.at Rw5_R.out (by simp [n_R_p]))
 have Re6_B := zh (hk.at Rw5_B.out (by simp [n_B_p]))
 have HKe6 := zh (HKw5.out.trans hk (by simp))
 have le6 := zh (lw5.out.kp hk (by simp [ns_l_p]))
 have us_le6 := Nat.le_trans us_lw5 hk.size
 have HPne6 := zh hp
 clear hp
 clear hk Rw5_T Rw5_R Rw5_B HKw5 lw5 us_lw5 HPw5
 have l_p := h_lt HPne6.out.row
 have l_T := h_lt Re6_T.out
 obtain ⟨l_R, xR_0, xR_1, xR_2, xR_3, xR_4, yR_0, yR_1, yR_2, yR_3, yR_4⟩ := cf5 Re6_R.out
 obtain ⟨l_B, xB_0, xB_1, xB_2, xB_3, xB_4, yB_0, yB_1, yB_2, yB_3, yB_4⟩ := cf5 Re6_B.out
 go_wp2_with fail
 refine ret_at (v := .agg #[.int .i64 19, .string tx, .float .f64 0, .slice la ll lc, .complex .f64 re im]) (fun W => Keeps [w.heap.size + 1] e6 W ∧ W.heap[w.heap.size + 1]? = some (.cells #[.int .i64 19, .string tx, .float .f64 0, .slice la ll lc, .complex .f64 re im] 50 (0, 0))) ⟨(by with_reducible repeat (first | exact k0 _ _ | refine kA ?_ _ | refine kD ?_ | refine kS ?_ (by simp) | refine kM ?_ (by simp))), (by simp only [hS, hA, hD, hM, reduceIte, Option.map_some, Obj.put, Re6_R.out, Nat.ne_of_lt l_R, Nat.ne_of_gt l_R] <;> rfl)⟩ (fun w7 hW => ?_) rfl (fun w7 hW => ?_)
 ·obtain ⟨Kw7, cw7_R⟩ := hW
  have q0 := cell_of_heap cw7_R 0
  have q1 := cell_of_heap cw7_R 1
  have q2 := cell_of_heap cw7_R 2
  have q3 := cell_of_heap cw7_R 3
  have q4 := cell_of_heap cw7_R 4
  simp at q0 q1 q2 q3 q4
  simp [results, Tryz.results295, go_sem, q0, q1, q2, q3, q4]
 ·obtain ⟨Kw7, cw7_R⟩ := hW
  have Rw7_T := zh (Kw7.at Re6_T.out (by simp [n_T_R]))
  have Rw7_B := zh (Kw7.at Re6_B.out (by simp [n_B_R]))
  have HKw7 := zh (HKe6.out.trans Kw7 (by simp [o_R]))
  have HPw7 := zh (HPne6.out.keepN Kw7 (by simp [n_p_R]) (by simp [g_R]))
  have lw7 := zh (le6.out.kp Kw7 (by simp [ns_l_R]))
  have us_lw7 := Nat.le_trans us_le6 Kw7.size
  have Rw7_R := zh cw7_R
  clear Kw7 cw7_R l_p l_T l_R xR_0 xR_1 xR_2 xR_3 xR_4 yR_0 yR_1 yR_2 yR_3 yR_4 l_B xB_0 xB_1 xB_2 xB_3 xB_4 yB_0 yB_1 yB_2 yB_3 yB_4 Re6_T Re6_B HKe6 HPne6 le6 us_le6 Re6_R
  exact ⟨_, rfl, .mk (lw7.out.to dn_l), HPw7.out, HKw7.out⟩

theorem call_7n {s : ByteArray} {p : Nat} {st st1 st3 : PSt} {tx : ByteArray} {nm fr te re im : Nat} (le2 : te ≤ s.size) (hs1 : (tx.toList == [115, 121, 115, 116, 101, 109]) = false) (hs2 : (tx.toList == [108, 101, 110, 103, 116, 104]) = false) (hw : wantF s ⟨te, st.opn, st.ng⟩ ⟨#[40]⟩ = some st1) (hb : isF s st1 ⟨#[41]⟩ = some true) (hv : wantF s st1 ⟨#[41]⟩ = some st3) :
  CallH s p ⟨7, tx, nm, fr, te⟩ re im st st3 (.mk 20 tx 0 [] re im) := by
 intro w h
 have g_p := h.p
 have HP0 := zh h; have HK0 := zh (Keeps.refl [p] w); have HW := zh hw; have HB := zh hb; have HV := zh hv
 clear h hw hb hv
 go_enter Tryz.func295, Tryz.ntmps295
 obtain ⟨l_p, xp_0, xp_1, xp_2, xp_3, xp_4, xp_5, yp_0, yp_1, yp_2, yp_3, yp_4, yp_5⟩ := cf6 HP0.out.row
 have l_p_1 : p < w.heap.size + 1 := Nat.lt_add_right 1 l_p
 have l_p_2 : p < w.heap.size + 2 := Nat.lt_add_right 2 l_p
 go_wp2_with fail
 refine calls_at (fun W => Keeps [p] w W ∧ W.heap[p]? = some (.cells #[.string s, .int .i64 te, .int .i64 st.opn, .bool st.ng, .int .i64 0, .complex .f64 0 0] 87 (0, 0)) ∧ W.heap[w.heap.size]? = some (.cells #[.int .i64 7, .string tx, .float .f64 nm, .int .i64 fr, .int .i64 te] 90 (0, 0)) ∧ W.heap[w.heap.size + 1]? = some (.cells #[.int .i64 0, .string ⟨#[]⟩, .float .f64 0, .slice none 0 0, .complex .f64 0 0] 50 (0, 0)) ∧ W.heap[w.heap.size + 2]? = some (.cells #[.int .i64 20, .string tx, .float .f64 0, .slice none 0 0, .complex .f64 re im] 50 (0, 0))) ⟨(by with_reducible repeat (first | exact k0 _ _ | refine kA ?_ _ | refine kD ?_ | refine kS ?_ (by simp) | refine kM ?_ (by simp))), (by simp only [hS, hA, hD, hM, World.size_alloc, World.size_setCell, World.size_drew, size_mset, Nat.add_right_cancel_iff, Nat.left_eq_add, Nat.add_eq_left, Nat.reduceEqDiff, Nat.add_assoc, Nat.reduceAdd, Nat.one_ne_zero, Nat.zero_ne_one, reduceIte, Option.map_some, Obj.put, HP0.out.row, Nat.ne_of_lt l_p, Nat.ne_of_gt l_p, Nat.ne_of_lt (Nat.lt_add_right 1 l_p), Nat.ne_of_gt (Nat.lt_add_right 1 l_p), Nat.ne_of_lt (Nat.lt_add_right 2 l_p), Nat.ne_of_gt (Nat.lt_add_right 2 l_p)] <;> rfl), (by simp only [hS, hA, hD, hM, World.size_alloc, World.size_setCell, World.size_drew, size_mset, Nat.add_right_cancel_iff, Nat.left_eq_add, Nat.add_eq_left, Nat.reduceEqDiff, Nat.add_assoc, Nat.reduceAdd, Nat.one_ne_zero, Nat.zero_ne_one, reduceIte, Option.map_some, Obj.put, HP0.out.row, Nat.ne_of_lt l_p, Nat.ne_of_gt l_p, Nat.ne_of_lt (Nat.lt_add_right 1 l_p), Nat.ne_of_gt (Nat.lt_add_right 1 l_p), Nat.ne_of_lt (Nat.lt_add_right 2 l_p), Nat.ne_of_gt (Nat.lt_add_right 2 l_p)] <;> rfl), (by simp only [hS, hA, hD, hM, World.size_alloc, World.size_setCell, World.size_drew, size_mset, Nat.add_right_cancel_iff, Nat.left_eq_add, Nat.add_eq_left, Nat.reduceEqDiff, Nat.add_assoc, Nat.reduceAdd, Nat.one_ne_zero, Nat.zero_ne_one, reduceIte, Option.map_some, Obj.put, HP0.out.row, Nat.ne_of_lt l_p, Nat.ne_of_gt l_p, Nat.ne_of_lt (Nat.lt_add_right 1 l_p), Nat.ne_of_gt (Nat.lt_add_right 1 l_p), Nat.ne_of_lt (Nat.lt_add_right 2 l_p), Nat.ne_of_gt (Nat.lt_add_right 2 l_p)] <;> rfl), (by simp only [hS, hA, hD, hM, World.size_alloc, World.size_setCell, World.size_drew, size_mset, Nat.add_right_cancel_iff, Nat.left_eq_add, Nat.add_eq_left, Nat.reduceEqDiff, Nat.add_assoc, Nat.reduceAdd, Nat.one_ne_zero, Nat.zero_ne_one, reduceIte, Option.map_some, Obj.put, HP0.out.row, Nat.ne_of_lt l_p, Nat.ne_of_gt l_p, Nat.ne_of_lt (Nat.lt_add_right 1 l_p), Nat.ne_of_gt (Nat.lt_add_right 1 l_p), Nat.ne_of_lt (Nat.lt_add_right 2 l_p), Nat.ne_of_gt (Nat.lt_add_right 2 l_p)] <;> rfl)⟩ ?_
 rintro w1 ⟨Kw1, cw1_p, cw1_T, cw1_R, cw1_B⟩
 have ⟨n_p_T, n_T_p⟩ := zne l_p
 have o_T : w.heap.size ≤ w.heap.size := Nat.le_refl _
 have g_T : 14 < w.heap.size := Nat.lt_trans g_p l_p
 have ⟨n_p_R, n_R_p⟩ := zne (Nat.lt_add_right 1 l_p)
 have n_T_R : w.heap.size ≠ w.heap.size + 1 := by simp
 have n_R_T : w.heap.size + 1 ≠ w.heap.size := by simp
 have o_R : w.heap.size ≤ w.heap.size + 1 := Nat.le_trans (Nat.le_refl _) (Nat.le_add_right _ 1)
 have g_R : 14 < w.heap.size + 1 := Nat.lt_trans g_p (Nat.lt_add_right 1 l_p)
 have ⟨n_p_B, n_B_p⟩ := zne (Nat.lt_add_right 2 l_p)
 have n_T_B : w.heap.size ≠ w.heap.size + 2 := by simp
 have n_B_T : w.heap.size + 2 ≠ w.heap.size := by simp
 have n_R_B : w.heap.size + 1 ≠ w.heap.size + 2 := by simp
 have n_B_R : w.heap.size + 2 ≠ w.heap.size + 1 := by simp
 have o_B : w.heap.size ≤ w.heap.size + 2 := Nat.le_trans (Nat.le_refl _) (Nat.le_add_right _ 2)
 have g_B : 14 < w.heap.size + 2 := Nat.lt_trans g_p (Nat.lt_add_right 2 l_p)
 have HKw1 := zh (HK0.out.trans Kw1 (by simp))
 have HPw1 : Hid (PP s p ⟨te, st.opn, st.ng⟩ w1) := zh (HP0.out.upd Kw1 (by simp [g_p]) cw1_p (by first | assumption | exact HP0.out.le) HP0.out.ob)
 have Rw1_T := zh cw1_T
 have Rw1_R := zh cw1_R
 have Rw1_B := zh cw1_B
 clear Kw1 cw1_p cw1_T cw1_R cw1_B l_p l_p_1 l_p_2 xp_0 xp_1 xp_2 xp_3 xp_4 xp_5 yp_0 yp_1 yp_2 yp_3 yp_4 yp_5 HK0 HP0
 refine (want_any HPw1.out HW.out).mono ?_
 rintro r e2 ⟨rfl, hp, hk⟩
 have Re2_T := zh (hk.at Rw1_T.out (by simp [n_T_p]))
 have Re2_R := zh (hk.at Rw1_R.out (by simp [n_R_p]))
 have Re2_B := zh (hk.at Rw1_B.out (by simp [n_B_p]))
 have HKe2 := zh (HKw1.out.trans hk (by simp))
 have HPne2 := zh hp
 clear hp
 clear hk Rw1_T Rw1_R Rw1_B HKw1 HPw1
 have l_p := h_lt HPne2.out.row
 have l_T := h_lt Re2_T.out
 have l_R := h_lt Re2_R.out
 have l_B := h_lt Re2_B.out
 go_wp2_with fail
 clear l_p l_T l_R l_B
 refine (isF_any HPne2.out HB.out).mono ?_
 rintro r e3 ⟨rfl, hk⟩
 have Re3_T := zh (hk.at Re2_T.out (by simp))
 have Re3_R := zh (hk.at Re2_R.out (by simp))
 have Re3_B := zh (hk.at Re2_B.out (by simp))
 have HKe3 := zh (HKe2.out.trans hk (by simp))
 have HPe3 := zh (HPne2.out.keep hk)
 clear hk Re2_T Re2_R Re2_B HKe2 HPne2
 have l_p := h_lt HPe3.out.row
 have l_T := h_lt Re3_T.out
 have l_R := h_lt Re3_R.out
 have l_B := h_lt Re3_B.out
 go_wp2_with fail
 clear l_p l_T l_R l_B
 refine (want_any HPe3.out HV.out).mono ?_
 rintro r e4 ⟨rfl, hp, hk⟩
 have Re4_T := zh (hk.at Re3_T.out (by simp [n_T_p]))
 have Re4_R := zh (hk.at Re3_R.out (by simp [n_R_p]))
 have Re4_B := zh (hk.at Re3_B.out (by simp [n_B_p]))
 have HKe4 := zh (HKe3.out.trans hk (by simp))
 have HPne4 := zh hp
 clear hp
 clear hk Re3_T Re3_R Re3_B HKe3 HPe3
 have l_p := h_lt HPne4.out.row
 have l_T := h_lt Re4_T.out
 obtain ⟨l_R, xR_0, xR_1, xR_2, xR_3, xR_4, yR_0, yR_1, yR_2, yR_3, yR_4⟩ := cf5 Re4_R.out
 obtain ⟨l_B, xB_0, xB_1, xB_2, xB_3, xB_4, yB_0, yB_1, yB_2, yB_3, yB_4⟩ := cf5 Re4_B.out
 go_wp2_with fail
 refine ret_at (v := .agg #[.int .i64 20, .string tx, .float .f64 0, .slice none 0 0, .complex .f64 re im]) (fun W => Keeps [w.heap.size + 1] e4 W ∧ W.heap[w.heap.size + 1]? = some (.cells #[.int .i64 20, .string tx, .float .f64 0, .slice none 0 0, .complex .f64 re im] 50 (0, 0))) ⟨(by with_reducible repeat (first | exact k0 _ _ | refine kA ?_ _ | refine kD ?_ | refine kS ?_ (by simp) | refine kM ?_ (by simp))), (by simp only [hS, hA, hD, hM, reduceIte, Option.map_some, Obj.put, Re4_R.out, Nat.ne_of_lt l_R, Nat.ne_of_gt l_R] <;> rfl)⟩ (fun w5 hW => ?_) rfl (fun w5 hW => ?_)
 ·obtain ⟨Kw5, cw5_R⟩ := hW
  have q0 := cell_of_heap cw5_R 0
  have q1 := cell_of_heap cw5_R 1
  have q2 := cell_of_heap cw5_R 2
  have q3 := cell_of_heap cw5_R 3
  have q4 := cell_of_heap cw5_R 4
  simp at q0 q1 q2 q3 q4
  simp [results, Tryz.results295, go_sem, q0, q1, q2, q3, q4]
 ·obtain ⟨Kw5, cw5_R⟩ := hW
  have Rw5_T := zh (Kw5.at Re4_T.out (by simp [n_T_R]))
  have Rw5_B := zh (Kw5.at Re4_B.out (by simp [n_B_R]))
  have HKw5 := zh (HKe4.out.trans Kw5 (by simp [o_R]))
  have HPw5 := zh (HPne4.out.keepN Kw5 (by simp [n_p_R]) (by simp [g_R]))
  have Rw5_R := zh cw5_R
  clear Kw5 cw5_R l_p l_T l_R xR_0 xR_1 xR_2 xR_3 xR_4 yR_0 yR_1 yR_2 yR_3 yR_4 l_B xB_0 xB_1 xB_2 xB_3 xB_4 yB_0 yB_1 yB_2 yB_3 yB_4 Re4_T Re4_B HKe4 HPne4 Re4_R
  exact ⟨_, rfl, .mk .nil, HPw5.out, HKw5.out⟩

theorem call_7a {s : ByteArray} {p : Nat} {st st1 st2 st3 : PSt} {tx : ByteArray} {nm fr te re im : Nat} {l : List Node} (le2 : te ≤ s.size) (hs1 : (tx.toList == [115, 121, 115, 116, 101, 109]) = false) (hs2 : (tx.toList == [108, 101, 110, 103, 116, 104]) = false) (hw : wantF s ⟨te, st.opn, st.ng⟩ ⟨#[40]⟩ = some st1) (hb : isF s st1 ⟨#[41]⟩ = some false) (hl : Lists s p st1 st2 l 224 [.bool false]) (hv : wantF s st2 ⟨#[41]⟩ = some st3) :
  CallH s p ⟨7, tx, nm, fr, te⟩ re im st st3 (.mk 20 tx 0 l re im) := by
 intro w h
 have g_p := h.p
 have HP0 := zh h; have HK0 := zh (Keeps.refl [p] w); have HW := zh hw; have HB := zh hb; have HV := zh hv; have HL := zh hl
 clear h hw hb hv hl
 go_enter Tryz.func295, Tryz.ntmps295
 obtain ⟨l_p, xp_0, xp_1, xp_2, xp_3, xp_4, xp_5, yp_0, yp_1, yp_2, yp_3, yp_4, yp_5⟩ := cf6 HP0.out.row
 have l_p_1 : p < w.heap.size + 1 := Nat.lt_add_right 1 l_p
 have l_p_2 : p < w.heap.size + 2 := Nat.lt_add_right 2 l_p
 go_wp2_with fail
 refine calls_at (fun W => Keeps [p] w W ∧ W.heap[p]? = some (.cells #[.string s, .int .i64 te, .int .i64 st.opn, .bool st.ng, .int .i64 0, .complex .f64 0 0] 87 (0, 0)) ∧ W.heap[w.heap.size]? = some (.cells #[.int .i64 7, .string tx, .float .f64 nm, .int .i64 fr, .int .i64 te] 90 (0, 0)) ∧ W.heap[w.heap.size + 1]? = some (.cells #[.int .i64 0, .string ⟨#[]⟩, .float .f64 0, .slice none 0 0, .complex .f64 0 0] 50 (0, 0)) ∧ W.heap[w.heap.size + 2]? = some (.cells #[.int .i64 20, .string tx, .float .f64 0, .slice none 0 0, .complex .f64 re im] 50 (0, 0))) ⟨(by with_reducible repeat (first | exact k0 _ _ | refine kA ?_ _ | refine kD ?_ | refine kS ?_ (by simp) | refine kM ?_ (by simp))), (by simp only [hS, hA, hD, hM, World.size_alloc, World.size_setCell, World.size_drew, size_mset, Nat.add_right_cancel_iff, Nat.left_eq_add, Nat.add_eq_left, Nat.reduceEqDiff, Nat.add_assoc, Nat.reduceAdd, Nat.one_ne_zero, Nat.zero_ne_one, reduceIte, Option.map_some, Obj.put, HP0.out.row, Nat.ne_of_lt l_p, Nat.ne_of_gt l_p, Nat.ne_of_lt (Nat.lt_add_right 1 l_p), Nat.ne_of_gt (Nat.lt_add_right 1 l_p), Nat.ne_of_lt (Nat.lt_add_right 2 l_p), Nat.ne_of_gt (Nat.lt_add_right 2 l_p)] <;> rfl), (by simp only [hS, hA, hD, hM, World.size_alloc, World.size_setCell, World.size_drew, size_mset, Nat.add_right_cancel_iff, Nat.left_eq_add, Nat.add_eq_left, Nat.reduceEqDiff, Nat.add_assoc, Nat.reduceAdd, Nat.one_ne_zero, Nat.zero_ne_one, reduceIte, Option.map_some, Obj.put, HP0.out.row, Nat.ne_of_lt l_p, Nat.ne_of_gt l_p, Nat.ne_of_lt (Nat.lt_add_right 1 l_p), Nat.ne_of_gt (Nat.lt_add_right 1 l_p), Nat.ne_of_lt (Nat.lt_add_right 2 l_p), Nat.ne_of_gt (Nat.lt_add_right 2 l_p)] <;> rfl), (by simp only [hS, hA, hD, hM, World.size_alloc, World.size_setCell, World.size_drew, size_mset, Nat.add_right_cancel_iff, Nat.left_eq_add, Nat.add_eq_left, Nat.reduceEqDiff, Nat.add_assoc, Nat.reduceAdd, Nat.one_ne_zero, Nat.zero_ne_one, reduceIte, Option.map_some, Obj.put, HP0.out.row, Nat.ne_of_lt l_p, Nat.ne_of_gt l_p, Nat.ne_of_lt (Nat.lt_add_right 1 l_p), Nat.ne_of_gt (Nat.lt_add_right 1 l_p), Nat.ne_of_lt (Nat.lt_add_right 2 l_p), Nat.ne_of_gt (Nat.lt_add_right 2 l_p)] <;> rfl), (by simp only [hS, hA, hD, hM, World.size_alloc, World.size_setCell, World.size_drew, size_mset, Nat.add_right_cancel_iff, Nat.left_eq_add, Nat.add_eq_left, Nat.reduceEqDiff, Nat.add_assoc, Nat.reduceAdd, Nat.one_ne_zero, Nat.zero_ne_one, reduceIte, Option.map_some, Obj.put, HP0.out.row, Nat.ne_of_lt l_p, Nat.ne_of_gt l_p, Nat.ne_of_lt (Nat.lt_add_right 1 l_p), Nat.ne_of_gt (Nat.lt_add_right 1 l_p), Nat.ne_of_lt (Nat.lt_add_right 2 l_p), Nat.ne_of_gt (Nat.lt_add_right 2 l_p)] <;> rfl)⟩ ?_
 rintro w1 ⟨Kw1, cw1_p, cw1_T, cw1_R, cw1_B⟩
 have ⟨n_p_T, n_T_p⟩ := zne l_p
 have o_T : w.heap.size ≤ w.heap.size := Nat.le_refl _
 have g_T : 14 < w.heap.size := Nat.lt_trans g_p l_p
 have ⟨n_p_R, n_R_p⟩ := zne (Nat.lt_add_right 1 l_p)
 have n_T_R : w.heap.size ≠ w.heap.size + 1 := by simp
 have n_R_T : w.heap.size + 1 ≠ w.heap.size := by simp
 have o_R : w.heap.size ≤ w.heap.size + 1 := Nat.le_trans (Nat.le_refl _) (Nat.le_add_right _ 1)
 have g_R : 14 < w.heap.size + 1 := Nat.lt_trans g_p (Nat.lt_add_right 1 l_p)
 have ⟨n_p_B, n_B_p⟩ := zne (Nat.lt_add_right 2 l_p)
 have n_T_B : w.heap.size ≠ w.heap.size + 2 := by simp
 have n_B_T : w.heap.size + 2 ≠ w.heap.size := by simp
 have n_R_B : w.heap.size + 1 ≠ w.heap.size + 2 := by simp
 have n_B_R : w.heap.size + 2 ≠ w.heap.size + 1 := by simp
 have o_B : w.heap.size ≤ w.heap.size + 2 := Nat.le_trans (Nat.le_refl _) (Nat.le_add_right _ 2)
 have g_B : 14 < w.heap.size + 2 := Nat.lt_trans g_p (Nat.lt_add_right 2 l_p)
 have HKw1 := zh (HK0.out.trans Kw1 (by simp))
 have HPw1 : Hid (PP s p ⟨te, st.opn, st.ng⟩ w1) := zh (HP0.out.upd Kw1 (by simp [g_p]) cw1_p (by first | assumption | exact HP0.out.le) HP0.out.ob)
 have Rw1_T := zh cw1_T
 have Rw1_R := zh cw1_R
 have Rw1_B := zh cw1_B
 clear Kw1 cw1_p cw1_T cw1_R cw1_B l_p l_p_1 l_p_2 xp_0 xp_1 xp_2 xp_3 xp_4 xp_5 yp_0 yp_1 yp_2 yp_3 yp_4 yp_5 HK0 HP0
 refine (want_any HPw1.out HW.out).mono ?_
 rintro r e2 ⟨rfl, hp, hk⟩
 have Re2_T := zh (hk.at Rw1_T.out (by simp [n_T_p]))
 have Re2_R := zh (hk.at Rw1_R.out (by simp [n_R_p]))
 have Re2_B := zh (hk.at Rw1_B.out (by simp [n_B_p]))
 have HKe2 := zh (HKw1.out.trans hk (by simp))
 have HPne2 := zh hp
 clear hp
 clear hk Rw1_T Rw1_R Rw1_B HKw1 HPw1
 have l_p := h_lt HPne2.out.row
 have l_T := h_lt Re2_T.out
 have l_R := h_lt Re2_R.out
 have l_B := h_lt Re2_B.out
 go_wp2_with fail
 clear l_p l_T l_R l_B
 refine (isF_any HPne2.out HB.out).mono ?_
 rintro r e3 ⟨rfl, hk⟩
 have Re3_T := zh (hk.at Re2_T.out (by simp))
 have Re3_R := zh (hk.at Re2_R.out (by simp))
 have Re3_B := zh (hk.at Re2_B.out (by simp))
 have HKe3 := zh (HKe2.out.trans hk (by simp))
 have HPe3 := zh (HPne2.out.keep hk)
 clear hk Re2_T Re2_R Re2_B HKe2 HPne2
 have l_p := h_lt HPe3.out.row
 have l_T := h_lt Re3_T.out
 have l_R := h_lt Re3_R.out
 have l_B := h_lt Re3_B.out
 go_wp2_with fail
 clear l_p l_T l_R l_B
 refine (HL.out _ HPe3.out).mono ?_
 rintro r e4 ⟨v, rfl, hn, hp, hk⟩
 have Re4_T := zh (hk.at Re3_T.out (by simp [n_T_p]))
 have Re4_R := zh (hk.at Re3_R.out (by simp [n_R_p]))
 have Re4_B := zh (hk.at Re3_B.out (by simp [n_B_p]))
 have HKe4 := zh (HKe3.out.trans hk (by simp))
 have HPne4 := zh hp
 have le4 := zh hn.seg
 have o_l : w.heap.size ≤ e3.heap.size := HKe3.out.size
 have ns_l_p : ¬ (Seg e3.heap.size e4.heap.size) (p) := fun h => Nat.not_lt_of_le h.1 (h_lt HPe3.out.row)
 have ns_l_T : ¬ (Seg e3.heap.size e4.heap.size) (w.heap.size) := fun h => Nat.not_lt_of_le h.1 (h_lt Re3_T.out)
 have ns_l_R : ¬ (Seg e3.heap.size e4.heap.size) (w.heap.size + 1) := fun h => Nat.not_lt_of_le h.1 (h_lt Re3_R.out)
 have ns_l_B : ¬ (Seg e3.heap.size e4.heap.size) (w.heap.size + 2) := fun h => Nat.not_lt_of_le h.1 (h_lt Re3_B.out)
 have up_l : ∀ g, (Seg e3.heap.size e4.heap.size) g → g < e4.heap.size := fun _ h => h.2
 have dn_l : ∀ g, (Seg e3.heap.size e4.heap.size) g → w.heap.size ≤ g := fun _ h => Nat.le_trans o_l h.1
 obtain ⟨la, ll, lc, rfl⟩ := hn.slice
 clear hn hp
 clear hk Re3_T Re3_R Re3_B HKe3 HPe3
 have l_p := h_lt HPne4.out.row
 have l_T := h_lt Re4_T.out
 have l_R := h_lt Re4_R.out
 obtain ⟨l_B, xB_0, xB_1, xB_2, xB_3, xB_4, yB_0, yB_1, yB_2, yB_3, yB_4⟩ := cf5 Re4_B.out
 go_wp2_with fail
 refine calls_at (fun W => Keeps [w.heap.size + 2] e4 W ∧ W.heap[w.heap.size + 2]? = some (.cells #[.int .i64 20, .string tx, .float .f64 0, .slice la ll lc, .complex .f64 re im] 50 (0, 0))) ⟨(by with_reducible repeat (first | exact k0 _ _ | refine kA ?_ _ | refine kD ?_ | refine kS ?_ (by simp) | refine kM ?_ (by simp))), (by simp only [hS, hA, hD, hM, reduceIte, Option.map_some, Obj.put, Re4_B.out, Nat.ne_of_lt l_B, Nat.ne_of_gt l_B] <;> rfl)⟩ ?_
 rintro w5 ⟨Kw5, cw5_B⟩
 have Rw5_T := zh (Kw5.at Re4_T.out (by simp [n_T_B]))
 have Rw5_R := zh (Kw5.at Re4_R.out (by simp [n_R_B]))
 have HKw5 := zh (HKe4.out.trans Kw5 (by simp [o_B]))
 have HPw5 := zh (HPne4.out.keepN Kw5 (by simp [n_p_B]) (by simp [g_B]))
 have lw5 := zh (le4.out.kp Kw5 (by simp [ns_l_B]))
 have us_lw5 := Nat.le_trans (Nat.le_refl e4.heap.size) Kw5.size
 have Rw5_B := zh cw5_B
 clear Kw5 cw5_B l_p l_T l_R l_B xB_0 xB_1 xB_2 xB_3 xB_4 yB_0 yB_1 yB_2 yB_3 yB_4 Re4_T Re4_R HKe4 HPne4 le4 Re4_B
 refine (want_any HPw5.out HV.out).mono ?_
 rintro r e6 ⟨rfl, hp, hk⟩
 have Re6_T := zh (hk.at Rw5_T.out (by simp [n_T_p]))
 have Re6_R := zh (hk.at Rw5_R.out (by simp [n_R_p]))
 have Re6_B := zh (hk.at Rw5_B.out (by simp [n_B_p]))
 have HKe6 := zh (HKw5.out.trans hk (by simp))
 have le6 := zh (lw5.out.kp hk (by simp [ns_l_p]))
 have us_le6 := Nat.le_trans us_lw5 hk.size
 have HPne6 := zh hp
 clear hp
 clear hk Rw5_T Rw5_R Rw5_B HKw5 lw5 us_lw5 HPw5
 have l_p := h_lt HPne6.out.row
 have l_T := h_lt Re6_T.out
 obtain ⟨l_R, xR_0, xR_1, xR_2, xR_3, xR_4, yR_0, yR_1, yR_2, yR_3, yR_4⟩ := cf5 Re6_R.out
 obtain ⟨l_B, xB_0, xB_1, xB_2, xB_3, xB_4, yB_0, yB_1, yB_2, yB_3, yB_4⟩ := cf5 Re6_B.out
 go_wp2_with fail
 refine ret_at (v := .agg #[.int .i64 20, .string tx, .float .f64 0, .slice la ll lc, .complex .f64 re im]) (fun W => Keeps [w.heap.size + 1] e6 W ∧ W.heap[w.heap.size + 1]? = some (.cells #[.int .i64 20, .string tx, .float .f64 0, .slice la ll lc, .complex .f64 re im] 50 (0, 0))) ⟨(by with_reducible repeat (first | exact k0 _ _ | refine kA ?_ _ | refine kD ?_ | refine kS ?_ (by simp) | refine kM ?_ (by simp))), (by simp only [hS, hA, hD, hM, reduceIte, Option.map_some, Obj.put, Re6_R.out, Nat.ne_of_lt l_R, Nat.ne_of_gt l_R] <;> rfl)⟩ (fun w7 hW => ?_) rfl (fun w7 hW => ?_)
 ·obtain ⟨Kw7, cw7_R⟩ := hW
  have q0 := cell_of_heap cw7_R 0
  have q1 := cell_of_heap cw7_R 1
  have q2 := cell_of_heap cw7_R 2
  have q3 := cell_of_heap cw7_R 3
  have q4 := cell_of_heap cw7_R 4
  simp at q0 q1 q2 q3 q4
  simp [results, Tryz.results295, go_sem, q0, q1, q2, q3, q4]
 ·obtain ⟨Kw7, cw7_R⟩ := hW
  have Rw7_T := zh (Kw7.at Re6_T.out (by simp [n_T_R]))
  have Rw7_B := zh (Kw7.at Re6_B.out (by simp [n_B_R]))
  have HKw7 := zh (HKe6.out.trans Kw7 (by simp [o_R]))
  have HPw7 := zh (HPne6.out.keepN Kw7 (by simp [n_p_R]) (by simp [g_R]))
  have lw7 := zh (le6.out.kp Kw7 (by simp [ns_l_R]))
  have us_lw7 := Nat.le_trans us_le6 Kw7.size
  have Rw7_R := zh cw7_R
  clear Kw7 cw7_R l_p l_T l_R xR_0 xR_1 xR_2 xR_3 xR_4 yR_0 yR_1 yR_2 yR_3 yR_4 l_B xB_0 xB_1 xB_2 xB_3 xB_4 yB_0 yB_1 yB_2 yB_3 yB_4 Re6_T Re6_B HKe6 HPne6 le6 us_le6 Re6_R
  exact ⟨_, rfl, .mk (lw7.out.to dn_l), HPw7.out, HKw7.out⟩
end Go.Proofs.YtkfillfkbhbbjaaGreatDoor
