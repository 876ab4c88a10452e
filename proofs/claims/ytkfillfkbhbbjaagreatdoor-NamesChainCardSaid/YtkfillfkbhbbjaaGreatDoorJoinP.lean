/- The parser's functions put together: what the plain parser says comes, comes. -/
import Derived.Test.YtkfillfkbhbbjaaGreatDoorLevelsP
set_option maxRecDepth 100000
set_option maxHeartbeats 4000000
set_option linter.unusedSimpArgs false
set_option linter.unusedVariables false
namespace Go.Proofs.YtkfillfkbhbbjaaGreatDoor
open Go.RowKit

theorem end_k0 {s : ByteArray} {p : Nat} {st : PSt} {w : World} (h : PP s p st w) {kd : Int} {tx : ByteArray} {nm fr te : Nat} (ht : nextF s st.pos false = some ⟨0, tx, nm, fr, te⟩)  :
  Calls Tryz.prog 163 #[.pointer (some ⟨p, 0, none⟩)] w fun r w' => r = .returned (.tuple #[]) ∧ PP s p st w' ∧ Keeps [p] w w' := by
 have g_p := h.p
 obtain ⟨le1, le2, -⟩ := nextF_le ht h.le
 simp only at le1 le2
 have HP0 := zh h; have HK0 := zh (Keeps.refl [p] w); have HT := zh ht
 clear h ht
 go_enter Tryz.func163, Tryz.ntmps163
 have l_p := h_lt HP0.out.row
 go_wp2_with fail
 clear l_p
 refine (see_any HP0.out HT.out).mono ?_
 rintro r e1 ⟨rfl, hk⟩
 have HKe1 := zh (HK0.out.trans hk (by simp))
 have HPe1 := zh (HP0.out.keep hk)
 clear hk HK0 HP0
 have l_p := h_lt HPe1.out.row
 go_wp2_with fail
 refine calls_at (fun W => Keeps [] e1 W ∧ W.heap[e1.heap.size]? = some (.cells #[.int .i64 0, .string tx, .float .f64 nm, .int .i64 fr, .int .i64 te] 90 (0, 0))) ⟨(by with_reducible repeat (first | exact k0 _ _ | refine kA ?_ _ | refine kD ?_ | refine kS ?_ (by simp) | refine kM ?_ (by simp))), (by simp only [hS, hA, hD, hM, World.size_setCell, World.size_drew, reduceIte, Option.map_some, Obj.put] <;> rfl)⟩ ?_
 rintro w2 ⟨Kw2, cw2_T⟩
 have ⟨n_p_T, n_T_p⟩ := zne l_p
 have o_T : w.heap.size ≤ e1.heap.size := HKe1.out.size
 have g_T : 14 < e1.heap.size := Nat.lt_trans g_p l_p
 have HKw2 := zh (HKe1.out.trans Kw2 (by simp))
 have HPw2 := zh (HPe1.out.keep Kw2)
 have Rw2_T := zh cw2_T
 clear Kw2 cw2_T l_p HKe1 HPe1
 refine (ok_any HPw2.out).mono ?_
 rintro r w' ⟨rfl, hw'⟩
 rw [hw']
 clear hw'
 have l_p := h_lt HPw2.out.row
 obtain ⟨l_T, xT_0, xT_1, xT_2, xT_3, xT_4, yT_0, yT_1, yT_2, yT_3, yT_4⟩ := cf5 Rw2_T.out
 go_wp2_with fail
 refine ret_at (v := .tuple #[]) (fun W => Keeps [] w2 W) (by with_reducible repeat (first | exact k0 _ _ | refine kA ?_ _ | refine kD ?_ | refine kS ?_ (by simp) | refine kM ?_ (by simp))) (fun w3 hW => ?_) rfl (fun w3 hW => ?_)
 ·have Kw3 : Keeps [] w2 w3 := hW
  simp [results, Tryz.results163, go_sem]
 ·have Kw3 : Keeps [] w2 w3 := hW
  have Rw3_T := zh (Kw3.at Rw2_T.out (by simp))
  have HKw3 := zh (HKw2.out.trans Kw3 (by simp))
  have HPw3 := zh (HPw2.out.keep Kw3)
  clear Kw3 l_p l_T xT_0 xT_1 xT_2 xT_3 xT_4 yT_0 yT_1 yT_2 yT_3 yT_4 Rw2_T HKw2 HPw2
  exact ⟨rfl, HPw3.out, HKw3.out⟩

theorem end_brace {s : ByteArray} {p : Nat} {st : PSt} {w : World} (h : PP s p st w) {kd : Int} {tx : ByteArray} {nm fr te : Nat} (ht : nextF s st.pos false = some ⟨kd, tx, nm, fr, te⟩) (n0 : (kd == 0) = false) (hb : isF s st ⟨#[125]⟩ = some true) :
  Calls Tryz.prog 163 #[.pointer (some ⟨p, 0, none⟩)] w fun r w' => r = .returned (.tuple #[]) ∧ PP s p st w' ∧ Keeps [p] w w' := by
 have g_p := h.p
 obtain ⟨le1, le2, -⟩ := nextF_le ht h.le
 simp only at le1 le2
 have HP0 := zh h; have HK0 := zh (Keeps.refl [p] w); have HT := zh ht; have HB := zh hb
 clear h ht hb
 go_enter Tryz.func163, Tryz.ntmps163
 have l_p := h_lt HP0.out.row
 go_wp2_with fail
 clear l_p
 refine (see_any HP0.out HT.out).mono ?_
 rintro r e1 ⟨rfl, hk⟩
 have HKe1 := zh (HK0.out.trans hk (by simp))
 have HPe1 := zh (HP0.out.keep hk)
 clear hk HK0 HP0
 have l_p := h_lt HPe1.out.row
 go_wp2_with fail
 refine calls_at (fun W => Keeps [] e1 W ∧ W.heap[e1.heap.size]? = some (.cells #[.int .i64 kd, .string tx, .float .f64 nm, .int .i64 fr, .int .i64 te] 90 (0, 0))) ⟨(by with_reducible repeat (first | exact k0 _ _ | refine kA ?_ _ | refine kD ?_ | refine kS ?_ (by simp) | refine kM ?_ (by simp))), (by simp only [hS, hA, hD, hM, World.size_setCell, World.size_drew, reduceIte, Option.map_some, Obj.put] <;> rfl)⟩ ?_
 rintro w2 ⟨Kw2, cw2_T⟩
 have ⟨n_p_T, n_T_p⟩ := zne l_p
 have o_T : w.heap.size ≤ e1.heap.size := HKe1.out.size
 have g_T : 14 < e1.heap.size := Nat.lt_trans g_p l_p
 have HKw2 := zh (HKe1.out.trans Kw2 (by simp))
 have HPw2 := zh (HPe1.out.keep Kw2)
 have Rw2_T := zh cw2_T
 clear Kw2 cw2_T l_p HKe1 HPe1
 refine (ok_any HPw2.out).mono ?_
 rintro r w' ⟨rfl, hw'⟩
 rw [hw']
 clear hw'
 have l_p := h_lt HPw2.out.row
 obtain ⟨l_T, xT_0, xT_1, xT_2, xT_3, xT_4, yT_0, yT_1, yT_2, yT_3, yT_4⟩ := cf5 Rw2_T.out
 go_wp2_with fail
 clear l_p l_T xT_0 xT_1 xT_2 xT_3 xT_4 yT_0 yT_1 yT_2 yT_3 yT_4
 refine (isF_any HPw2.out HB.out).mono ?_
 rintro r e3 ⟨rfl, hk⟩
 have Re3_T := zh (hk.at Rw2_T.out (by simp))
 have HKe3 := zh (HKw2.out.trans hk (by simp))
 have HPe3 := zh (HPw2.out.keep hk)
 clear hk Rw2_T HKw2 HPw2
 have l_p := h_lt HPe3.out.row
 have l_T := h_lt Re3_T.out
 go_wp2_with fail
 refine ret_at (v := .tuple #[]) (fun W => Keeps [] e3 W) (by with_reducible repeat (first | exact k0 _ _ | refine kA ?_ _ | refine kD ?_ | refine kS ?_ (by simp) | refine kM ?_ (by simp))) (fun w4 hW => ?_) rfl (fun w4 hW => ?_)
 ·have Kw4 : Keeps [] e3 w4 := hW
  simp [results, Tryz.results163, go_sem]
 ·have Kw4 : Keeps [] e3 w4 := hW
  have Rw4_T := zh (Kw4.at Re3_T.out (by simp))
  have HKw4 := zh (HKe3.out.trans Kw4 (by simp))
  have HPw4 := zh (HPe3.out.keep Kw4)
  clear Kw4 l_p l_T Re3_T HKe3 HPe3
  exact ⟨rfl, HPw4.out, HKw4.out⟩

theorem end_line {s : ByteArray} {p : Nat} {st : PSt} {w : World} (h : PP s p st w) {kd : Int} {tx : ByteArray} {nm fr te : Nat} (ht : nextF s st.pos false = some ⟨1, tx, nm, fr, te⟩) (hb : isF s st ⟨#[125]⟩ = some false) :
  Calls Tryz.prog 163 #[.pointer (some ⟨p, 0, none⟩)] w fun r w' => r = .returned (.tuple #[]) ∧ PP s p ⟨te, st.opn, st.ng⟩ w' ∧ Keeps [p] w w' := by
 have g_p := h.p
 obtain ⟨le1, le2, -⟩ := nextF_le ht h.le
 simp only at le1 le2
 have HP0 := zh h; have HK0 := zh (Keeps.refl [p] w); have HT := zh ht; have HB := zh hb
 clear h ht hb
 go_enter Tryz.func163, Tryz.ntmps163
 have l_p := h_lt HP0.out.row
 go_wp2_with fail
 clear l_p
 refine (see_any HP0.out HT.out).mono ?_
 rintro r e1 ⟨rfl, hk⟩
 have HKe1 := zh (HK0.out.trans hk (by simp))
 have HPe1 := zh (HP0.out.keep hk)
 clear hk HK0 HP0
 have l_p := h_lt HPe1.out.row
 go_wp2_with fail
 refine calls_at (fun W => Keeps [] e1 W ∧ W.heap[e1.heap.size]? = some (.cells #[.int .i64 1, .string tx, .float .f64 nm, .int .i64 fr, .int .i64 te] 90 (0, 0))) ⟨(by with_reducible repeat (first | exact k0 _ _ | refine kA ?_ _ | refine kD ?_ | refine kS ?_ (by simp) | refine kM ?_ (by simp))), (by simp only [hS, hA, hD, hM, World.size_setCell, World.size_drew, reduceIte, Option.map_some, Obj.put] <;> rfl)⟩ ?_
 rintro w2 ⟨Kw2, cw2_T⟩
 have ⟨n_p_T, n_T_p⟩ := zne l_p
 have o_T : w.heap.size ≤ e1.heap.size := HKe1.out.size
 have g_T : 14 < e1.heap.size := Nat.lt_trans g_p l_p
 have HKw2 := zh (HKe1.out.trans Kw2 (by simp))
 have HPw2 := zh (HPe1.out.keep Kw2)
 have Rw2_T := zh cw2_T
 clear Kw2 cw2_T l_p HKe1 HPe1
 refine (ok_any HPw2.out).mono ?_
 rintro r w' ⟨rfl, hw'⟩
 rw [hw']
 clear hw'
 have l_p := h_lt HPw2.out.row
 obtain ⟨l_T, xT_0, xT_1, xT_2, xT_3, xT_4, yT_0, yT_1, yT_2, yT_3, yT_4⟩ := cf5 Rw2_T.out
 go_wp2_with fail
 clear l_p l_T xT_0 xT_1 xT_2 xT_3 xT_4 yT_0 yT_1 yT_2 yT_3 yT_4
 refine (isF_any HPw2.out HB.out).mono ?_
 rintro r e3 ⟨rfl, hk⟩
 have Re3_T := zh (hk.at Rw2_T.out (by simp))
 have HKe3 := zh (HKw2.out.trans hk (by simp))
 have HPe3 := zh (HPw2.out.keep hk)
 clear hk Rw2_T HKw2 HPw2
 obtain ⟨l_p, xp_0, xp_1, xp_2, xp_3, xp_4, xp_5, yp_0, yp_1, yp_2, yp_3, yp_4, yp_5⟩ := cf6 HPe3.out.row
 obtain ⟨l_T, xT_0, xT_1, xT_2, xT_3, xT_4, yT_0, yT_1, yT_2, yT_3, yT_4⟩ := cf5 Re3_T.out
 go_wp2_with fail
 refine end_at (v := .tuple #[]) (fun W => Keeps [p] e3 W ∧ W.heap[p]? = some (.cells #[.string s, .int .i64 te, .int .i64 st.opn, .bool st.ng, .int .i64 0, .complex .f64 0 0] 87 (0, 0))) ⟨(by with_reducible repeat (first | exact k0 _ _ | refine kA ?_ _ | refine kD ?_ | refine kS ?_ (by simp) | refine kM ?_ (by simp))), (by simp only [hS, hA, hD, hM, reduceIte, Option.map_some, Obj.put, HPe3.out.row, Nat.ne_of_lt l_p, Nat.ne_of_gt l_p] <;> rfl)⟩ (fun w4 hW => ?_) rfl (fun w4 hW => ?_)
 ·obtain ⟨Kw4, cw4_p⟩ := hW
  simp [results, Tryz.results163, go_sem]
 ·obtain ⟨Kw4, cw4_p⟩ := hW
  have Rw4_T := zh (Kw4.at Re3_T.out (by simp [n_T_p]))
  have HKw4 := zh (HKe3.out.trans Kw4 (by simp))
  have HPw4 : Hid (PP s p ⟨te, st.opn, st.ng⟩ w4) := zh (HPe3.out.upd Kw4 (by simp [g_p]) cw4_p (by first | assumption | exact HPe3.out.le) HPe3.out.ob)
  clear Kw4 cw4_p l_p xp_0 xp_1 xp_2 xp_3 xp_4 xp_5 yp_0 yp_1 yp_2 yp_3 yp_4 yp_5 l_T xT_0 xT_1 xT_2 xT_3 xT_4 yT_0 yT_1 yT_2 yT_3 yT_4 Re3_T HKe3 HPe3
  exact ⟨rfl, HPw4.out, HKw4.out⟩

theorem end_semi {s : ByteArray} {p : Nat} {st : PSt} {w : World} (h : PP s p st w) {kd : Int} {tx : ByteArray} {nm fr te : Nat} (ht : nextF s st.pos false = some ⟨9, tx, nm, fr, te⟩) (hb : isF s st ⟨#[125]⟩ = some false) (htx : (tx.toList == [59]) = true) :
  Calls Tryz.prog 163 #[.pointer (some ⟨p, 0, none⟩)] w fun r w' => r = .returned (.tuple #[]) ∧ PP s p ⟨te, st.opn, st.ng⟩ w' ∧ Keeps [p] w w' := by
 have g_p := h.p
 obtain ⟨le1, le2, -⟩ := nextF_le ht h.le
 simp only at le1 le2
 have HP0 := zh h; have HK0 := zh (Keeps.refl [p] w); have HT := zh ht; have HB := zh hb
 clear h ht hb
 go_enter Tryz.func163, Tryz.ntmps163
 have l_p := h_lt HP0.out.row
 go_wp2_with fail
 clear l_p
 refine (see_any HP0.out HT.out).mono ?_
 rintro r e1 ⟨rfl, hk⟩
 have HKe1 := zh (HK0.out.trans hk (by simp))
 have HPe1 := zh (HP0.out.keep hk)
 clear hk HK0 HP0
 have l_p := h_lt HPe1.out.row
 go_wp2_with fail
 refine calls_at (fun W => Keeps [] e1 W ∧ W.heap[e1.heap.size]? = some (.cells #[.int .i64 9, .string tx, .float .f64 nm, .int .i64 fr, .int .i64 te] 90 (0, 0))) ⟨(by with_reducible repeat (first | exact k0 _ _ | refine kA ?_ _ | refine kD ?_ | refine kS ?_ (by simp) | refine kM ?_ (by simp))), (by simp only [hS, hA, hD, hM, World.size_setCell, World.size_drew, reduceIte, Option.map_some, Obj.put] <;> rfl)⟩ ?_
 rintro w2 ⟨Kw2, cw2_T⟩
 have ⟨n_p_T, n_T_p⟩ := zne l_p
 have o_T : w.heap.size ≤ e1.heap.size := HKe1.out.size
 have g_T : 14 < e1.heap.size := Nat.lt_trans g_p l_p
 have HKw2 := zh (HKe1.out.trans Kw2 (by simp))
 have HPw2 := zh (HPe1.out.keep Kw2)
 have Rw2_T := zh cw2_T
 clear Kw2 cw2_T l_p HKe1 HPe1
 refine (ok_any HPw2.out).mono ?_
 rintro r w' ⟨rfl, hw'⟩
 rw [hw']
 clear hw'
 have l_p := h_lt HPw2.out.row
 obtain ⟨l_T, xT_0, xT_1, xT_2, xT_3, xT_4, yT_0, yT_1, yT_2, yT_3, yT_4⟩ := cf5 Rw2_T.out
 go_wp2_with fail
 clear l_p l_T xT_0 xT_1 xT_2 xT_3 xT_4 yT_0 yT_1 yT_2 yT_3 yT_4
 refine (isF_any HPw2.out HB.out).mono ?_
 rintro r e3 ⟨rfl, hk⟩
 have Re3_T := zh (hk.at Rw2_T.out (by simp))
 have HKe3 := zh (HKw2.out.trans hk (by simp))
 have HPe3 := zh (HPw2.out.keep hk)
 clear hk Rw2_T HKw2 HPw2
 obtain ⟨l_p, xp_0, xp_1, xp_2, xp_3, xp_4, xp_5, yp_0, yp_1, yp_2, yp_3, yp_4, yp_5⟩ := cf6 HPe3.out.row
 obtain ⟨l_T, xT_0, xT_1, xT_2, xT_3, xT_4, yT_0, yT_1, yT_2, yT_3, yT_4⟩ := cf5 Re3_T.out
 go_wp2_with fail
 refine end_at (v := .tuple #[]) (fun W => Keeps [p] e3 W ∧ W.heap[p]? = some (.cells #[.string s, .int .i64 te, .int .i64 st.opn, .bool st.ng, .int .i64 0, .complex .f64 0 0] 87 (0, 0))) ⟨(by with_reducible repeat (first | exact k0 _ _ | refine kA ?_ _ | refine kD ?_ | refine kS ?_ (by simp) | refine kM ?_ (by simp))), (by simp only [hS, hA, hD, hM, reduceIte, Option.map_some, Obj.put, HPe3.out.row, Nat.ne_of_lt l_p, Nat.ne_of_gt l_p] <;> rfl)⟩ (fun w4 hW => ?_) rfl (fun w4 hW => ?_)
 ·obtain ⟨Kw4, cw4_p⟩ := hW
  simp [results, Tryz.results163, go_sem]
 ·obtain ⟨Kw4, cw4_p⟩ := hW
  have Rw4_T := zh (Kw4.at Re3_T.out (by simp [n_T_p]))
  have HKw4 := zh (HKe3.out.trans Kw4 (by simp))
  have HPw4 : Hid (PP s p ⟨te, st.opn, st.ng⟩ w4) := zh (HPe3.out.upd Kw4 (by simp [g_p]) cw4_p (by first | assumption | exact HPe3.out.le) HPe3.out.ob)
  clear Kw4 cw4_p l_p xp_0 xp_1 xp_2 xp_3 xp_4 xp_5 yp_0 yp_1 yp_2 yp_3 yp_4 yp_5 l_T xT_0 xT_1 xT_2 xT_3 xT_4 yT_0 yT_1 yT_2 yT_3 yT_4 Re3_T HKe3 HPe3
  exact ⟨rfl, HPw4.out, HKw4.out⟩

theorem end_any {s : ByteArray} {p : Nat} {st st' : PSt} {w : World} (h : PP s p st w) (hx : endF s st = some st') :
  Calls Tryz.prog 163 #[.pointer (some ⟨p, 0, none⟩)] w fun r w' => r = .returned (.tuple #[]) ∧ PP s p st' w' ∧ Keeps [p] w w' := by
 unfold endF at hx
 cases ht : nextF s st.pos false with
 | none => rw [ht] at hx; simp at hx
 | some t =>
  rw [ht] at hx
  obtain ⟨kd, tx, nm, fr, te⟩ := t
  simp only [Option.bind_eq_bind, Option.bind_some] at hx
  by_cases h0 : kd = 0
  ·subst h0
   rw [if_pos rfl] at hx
   obtain rfl := Option.some.inj hx
   exact end_k0 (kd := 0) h ht
  ·rw [if_neg h0] at hx
   cases hb : isF s st (bs [125]) with
   | none => rw [hb] at hx; simp at hx
   | some b =>
    rw [hb] at hx
    simp only [Option.bind_some] at hx
    cases b with
    | true =>
     simp only [if_true, Option.some.injEq] at hx
     subst hx
     exact end_brace h ht (beq_false_of_ne h0) hb
    | false =>
     simp only [Bool.false_eq_true, if_false] at hx
     split at hx
     ·rename_i hc
      obtain rfl := Option.some.inj hx
      rcases hc with rfl | ⟨rfl, hs⟩
      ·exact end_line (kd := 0) h ht hb
      ·refine end_semi (kd := 0) h ht hb ?_
       rw [← same_eq] at hs
       rwa [show (bs [59]).toList = [59] from by rw [bs, ByteArray.toList_mk]] at hs
     ·cases hx

theorem stmt_lv {s : ByteArray} {p : Nat} {st st2 st3 : PSt} {n : Node} {kd : Int} {tx : ByteArray} {nm fr te : Nat} (ht : nextF s st.pos true = some ⟨kd, tx, nm, fr, te⟩) (hb : notF s st ⟨#[123]⟩ = some ()) (hn_if : notF s st ⟨#[105, 102]⟩ = some ()) (hn_while : notF s st ⟨#[119, 104, 105, 108, 101]⟩ = some ()) (hn_do : notF s st ⟨#[100, 111]⟩ = some ()) (hn_for : notF s st ⟨#[102, 111, 114]⟩ = some ()) (hs : Hands s p st st2 n 165) (he : endF s st2 = some st3) : Hands s p st st3 n 127 := by
 intro w h
 have g_p := h.p
 have HP0 := zh h; have HK0 := zh (Keeps.refl [p] w); have HT := zh ht; have HB := zh hb; have HS1 := zh hs; have HE := zh he; have HN_if := zh (take_not hn_if); have HN_while := zh (take_not hn_while); have HN_do := zh (take_not hn_do); have HN_for := zh (take_not hn_for)
 clear h ht hb hs he hn_if hn_while hn_do hn_for
 go_enter Tryz.func127, Tryz.ntmps127
 have l_p := h_lt HP0.out.row
 go_wp2_with fail
 refine calls_at (fun W => Keeps [] w W ∧ W.heap[w.heap.size]? = some (.cells #[.int .i64 0, .string ⟨#[]⟩, .float .f64 0, .slice none 0 0, .complex .f64 0 0] 50 (0, 0))) ⟨(by with_reducible repeat (first | exact k0 _ _ | refine kA ?_ _ | refine kD ?_ | refine kS ?_ (by simp) | refine kM ?_ (by simp))), (by simp only [hS, hA, hD, hM, World.size_setCell, World.size_drew, reduceIte, Option.map_some, Obj.put] <;> rfl)⟩ ?_
 rintro w1 ⟨Kw1, cw1_R⟩
 have ⟨n_p_R, n_R_p⟩ := zne l_p
 have o_R : w.heap.size ≤ w.heap.size := Nat.le_refl _
 have g_R : 14 < w.heap.size := Nat.lt_trans g_p l_p
 have HKw1 := zh (HK0.out.trans Kw1 (by simp))
 have HPw1 := zh (HP0.out.keep Kw1)
 have Rw1_R := zh cw1_R
 clear Kw1 cw1_R l_p HK0 HP0
 refine (here_any HPw1.out HT.out).mono ?_
 rintro r e2 ⟨rfl, hk⟩
 have Re2_R := zh (hk.at Rw1_R.out (by simp))
 have HKe2 := zh (HKw1.out.trans hk (by simp))
 have HPe2 := zh (HPw1.out.keep hk)
 clear hk Rw1_R HKw1 HPw1
 have l_p := h_lt HPe2.out.row
 have l_R := h_lt Re2_R.out
 go_wp2_with fail
 refine calls_at (fun W => Keeps [] e2 W ∧ W.heap[e2.heap.size]? = some (.cells #[.int .i64 kd, .string tx, .float .f64 nm, .int .i64 fr, .int .i64 te] 90 (0, 0))) ⟨(by with_reducible repeat (first | exact k0 _ _ | refine kA ?_ _ | refine kD ?_ | refine kS ?_ (by simp) | refine kM ?_ (by simp))), (by simp only [hS, hA, hD, hM, World.size_setCell, World.size_drew, reduceIte, Option.map_some, Obj.put] <;> rfl)⟩ ?_
 rintro w3 ⟨Kw3, cw3_T⟩
 have ⟨n_p_T, n_T_p⟩ := zne l_p
 have ⟨n_R_T, n_T_R⟩ := zne l_R
 have o_T : w.heap.size ≤ e2.heap.size := HKe2.out.size
 have g_T : 14 < e2.heap.size := Nat.lt_trans g_p l_p
 have Rw3_R := zh (Kw3.at Re2_R.out (by simp))
 have HKw3 := zh (HKe2.out.trans Kw3 (by simp))
 have HPw3 := zh (HPe2.out.keep Kw3)
 have Rw3_T := zh cw3_T
 clear Kw3 cw3_T l_p l_R Re2_R HKe2 HPe2
 refine (is_not HPw3.out HB.out).mono ?_
 rintro r e4 ⟨rfl, hk⟩
 have Re4_R := zh (hk.at Rw3_R.out (by simp))
 have Re4_T := zh (hk.at Rw3_T.out (by simp))
 have HKe4 := zh (HKw3.out.trans hk (by simp))
 have HPe4 := zh (HPw3.out.keep hk)
 clear hk Rw3_R Rw3_T HKw3 HPw3
 have l_p := h_lt HPe4.out.row
 have l_R := h_lt Re4_R.out
 have l_T := h_lt Re4_T.out
 go_wp2_with fail
 clear l_p l_R l_T
 refine (take_any HPe4.out HN_if.out).mono ?_
 rintro r e5 ⟨rfl, hp, hk⟩
 have Re5_R := zh (hk.at Re4_R.out (by simp [n_R_p]))
 have Re5_T := zh (hk.at Re4_T.out (by simp [n_T_p]))
 have HKe5 := zh (HKe4.out.trans hk (by simp))
 have HPne5 := zh hp
 clear hp
 clear hk Re4_R Re4_T HKe4 HPe4
 have l_p := h_lt HPne5.out.row
 have l_R := h_lt Re5_R.out
 have l_T := h_lt Re5_T.out
 go_wp2_with fail
 clear l_p l_R l_T
 refine (take_any HPne5.out HN_while.out).mono ?_
 rintro r e6 ⟨rfl, hp, hk⟩
 have Re6_R := zh (hk.at Re5_R.out (by simp [n_R_p]))
 have Re6_T := zh (hk.at Re5_T.out (by simp [n_T_p]))
 have HKe6 := zh (HKe5.out.trans hk (by simp))
 have HPne6 := zh hp
 clear hp
 clear hk Re5_R Re5_T HKe5 HPne5
 have l_p := h_lt HPne6.out.row
 have l_R := h_lt Re6_R.out
 have l_T := h_lt Re6_T.out
 go_wp2_with fail
 clear l_p l_R l_T
 refine (take_any HPne6.out HN_do.out).mono ?_
 rintro r e7 ⟨rfl, hp, hk⟩
 have Re7_R := zh (hk.at Re6_R.out (by simp [n_R_p]))
 have Re7_T := zh (hk.at Re6_T.out (by simp [n_T_p]))
 have HKe7 := zh (HKe6.out.trans hk (by simp))
 have HPne7 := zh hp
 clear hp
 clear hk Re6_R Re6_T HKe6 HPne6
 have l_p := h_lt HPne7.out.row
 have l_R := h_lt Re7_R.out
 have l_T := h_lt Re7_T.out
 go_wp2_with fail
 clear l_p l_R l_T
 refine (take_any HPne7.out HN_for.out).mono ?_
 rintro r e8 ⟨rfl, hp, hk⟩
 have Re8_R := zh (hk.at Re7_R.out (by simp [n_R_p]))
 have Re8_T := zh (hk.at Re7_T.out (by simp [n_T_p]))
 have HKe8 := zh (HKe7.out.trans hk (by simp))
 have HPne8 := zh hp
 clear hp
 clear hk Re7_R Re7_T HKe7 HPne7
 have l_p := h_lt HPne8.out.row
 have l_R := h_lt Re8_R.out
 have l_T := h_lt Re8_T.out
 go_wp2_with fail
 clear l_p l_R l_T
 refine (HS1.out _ HPne8.out).mono ?_
 rintro r e9 ⟨v, rfl, hn, hp, hk⟩
 have Re9_R := zh (hk.at Re8_R.out (by simp [n_R_p]))
 have Re9_T := zh (hk.at Re8_T.out (by simp [n_T_p]))
 have HKe9 := zh (HKe8.out.trans hk (by simp))
 have HPne9 := zh hp
 have ne9 := zh hn.seg
 have o_n : w.heap.size ≤ e8.heap.size := HKe8.out.size
 have ns_n_p : ¬ (Seg e8.heap.size e9.heap.size) (p) := fun h => Nat.not_lt_of_le h.1 (h_lt HPne8.out.row)
 have ns_n_R : ¬ (Seg e8.heap.size e9.heap.size) (w.heap.size) := fun h => Nat.not_lt_of_le h.1 (h_lt Re8_R.out)
 have ns_n_T : ¬ (Seg e8.heap.size e9.heap.size) (e2.heap.size) := fun h => Nat.not_lt_of_le h.1 (h_lt Re8_T.out)
 have up_n : ∀ g, (Seg e8.heap.size e9.heap.size) g → g < e9.heap.size := fun _ h => h.2
 have dn_n : ∀ g, (Seg e8.heap.size e9.heap.size) g → w.heap.size ≤ g := fun _ h => Nat.le_trans o_n h.1
 obtain ⟨nt, nm, na, nl, nc, nr, ni, rfl, -, -⟩ := hn.shape
 clear hn hp
 clear hk Re8_R Re8_T HKe8 HPne8
 have l_p := h_lt HPne9.out.row
 have l_R := h_lt Re9_R.out
 have l_T := h_lt Re9_T.out
 go_wp2_with fail
 refine calls_at (fun W => Keeps [] e9 W ∧ W.heap[e9.heap.size]? = some (.cells #[.int .i64 n.kind, .string nt, .float .f64 nm, .slice na nl nc, .complex .f64 nr ni] 50 (0, 0))) ⟨(by with_reducible repeat (first | exact k0 _ _ | refine kA ?_ _ | refine kD ?_ | refine kS ?_ (by simp) | refine kM ?_ (by simp))), (by simp only [hS, hA, hD, hM, World.size_setCell, World.size_drew, reduceIte, Option.map_some, Obj.put] <;> rfl)⟩ ?_
 rintro w10 ⟨Kw10, cw10_B⟩
 have ⟨n_p_B, n_B_p⟩ := zne l_p
 have ⟨n_R_B, n_B_R⟩ := zne l_R
 have ⟨n_T_B, n_B_T⟩ := zne l_T
 have o_B : w.heap.size ≤ e9.heap.size := HKe9.out.size
 have g_B : 14 < e9.heap.size := Nat.lt_trans g_p l_p
 have ns_n_B : ¬ (Seg e8.heap.size e9.heap.size) (e9.heap.size) := fun h => Nat.not_lt_of_le ((Nat.le_refl e9.heap.size)) (up_n _ h)
 have Rw10_R := zh (Kw10.at Re9_R.out (by simp))
 have Rw10_T := zh (Kw10.at Re9_T.out (by simp))
 have HKw10 := zh (HKe9.out.trans Kw10 (by simp))
 have HPw10 := zh (HPne9.out.keep Kw10)
 have nw10 := zh (ne9.out.kp Kw10 (by simp))
 have us_nw10 := Nat.le_trans (Nat.le_refl e9.heap.size) Kw10.size
 have Rw10_B := zh cw10_B
 clear Kw10 cw10_B l_p l_R l_T Re9_R Re9_T HKe9 HPne9 ne9
 refine (end_any HPw10.out HE.out).mono ?_
 rintro r e11 ⟨rfl, hp, hk⟩
 have Re11_R := zh (hk.at Rw10_R.out (by simp [n_R_p]))
 have Re11_T := zh (hk.at Rw10_T.out (by simp [n_T_p]))
 have Re11_B := zh (hk.at Rw10_B.out (by simp [n_B_p]))
 have HKe11 := zh (HKw10.out.trans hk (by simp))
 have ne11 := zh (nw10.out.kp hk (by simp [ns_n_p]))
 have us_ne11 := Nat.le_trans us_nw10 hk.size
 have HPne11 := zh hp
 clear hp
 clear hk Rw10_R Rw10_T Rw10_B HKw10 nw10 us_nw10 HPw10
 have l_p := h_lt HPne11.out.row
 obtain ⟨l_R, xR_0, xR_1, xR_2, xR_3, xR_4, yR_0, yR_1, yR_2, yR_3, yR_4⟩ := cf5 Re11_R.out
 have l_T := h_lt Re11_T.out
 obtain ⟨l_B, xB_0, xB_1, xB_2, xB_3, xB_4, yB_0, yB_1, yB_2, yB_3, yB_4⟩ := cf5 Re11_B.out
 go_wp2_with fail
 refine ret_at (v := .agg #[.int .i64 n.kind, .string nt, .float .f64 nm, .slice na nl nc, .complex .f64 nr ni]) (fun W => Keeps [w.heap.size] e11 W ∧ W.heap[w.heap.size]? = some (.cells #[.int .i64 n.kind, .string nt, .float .f64 nm, .slice na nl nc, .complex .f64 nr ni] 50 (0, 0))) ⟨(by with_reducible repeat (first | exact k0 _ _ | refine kA ?_ _ | refine kD ?_ | refine kS ?_ (by simp) | refine kM ?_ (by simp))), (by simp only [hS, hA, hD, hM, reduceIte, Option.map_some, Obj.put, Re11_R.out, Nat.ne_of_lt l_R, Nat.ne_of_gt l_R] <;> rfl)⟩ (fun w12 hW => ?_) rfl (fun w12 hW => ?_)
 ·obtain ⟨Kw12, cw12_R⟩ := hW
  have q0 := cell_of_heap cw12_R 0
  have q1 := cell_of_heap cw12_R 1
  have q2 := cell_of_heap cw12_R 2
  have q3 := cell_of_heap cw12_R 3
  have q4 := cell_of_heap cw12_R 4
  simp at q0 q1 q2 q3 q4
  simp [results, Tryz.results127, go_sem, q0, q1, q2, q3, q4]
 ·obtain ⟨Kw12, cw12_R⟩ := hW
  have Rw12_T := zh (Kw12.at Re11_T.out (by simp [n_T_R]))
  have Rw12_B := zh (Kw12.at Re11_B.out (by simp [n_B_R]))
  have HKw12 := zh (HKe11.out.trans Kw12 (by simp [o_R]))
  have HPw12 := zh (HPne11.out.keepN Kw12 (by simp [n_p_R]) (by simp [g_R]))
  have nw12 := zh (ne11.out.kp Kw12 (by simp [ns_n_R]))
  have us_nw12 := Nat.le_trans us_ne11 Kw12.size
  have Rw12_R := zh cw12_R
  clear Kw12 cw12_R l_p l_R xR_0 xR_1 xR_2 xR_3 xR_4 yR_0 yR_1 yR_2 yR_3 yR_4 l_T l_B xB_0 xB_1 xB_2 xB_3 xB_4 yB_0 yB_1 yB_2 yB_3 yB_4 Re11_T Re11_B HKe11 HPne11 ne11 us_ne11 Re11_R
  exact ⟨_, rfl, nw12.out.to dn_n, HPw12.out, HKw12.out⟩
end Go.Proofs.YtkfillfkbhbbjaaGreatDoor
namespace Go.Proofs.YtkfillfkbhbbjaaGreatDoor
open Go.RowKit

/-- The kids so far of a node that lies in block B, its other cells known. -/
def KidsI (s : ByteArray) (p R B : Nat) (w : World) (c0 c1 c2 c4 : Value) (l : List Node) (st : PSt) (W : World) : Prop :=
 ∃ (v : Value) (T : Nat → Prop) (U : Nat), OwnL NodeE 50 5 W w.heap.size T l v ∧ (∀ x, T x → x < U) ∧ U ≤ W.heap.size ∧ (∀ x, T x → w.heap.size ≤ x) ∧ ¬ T p ∧ ¬ T R ∧ ¬ T B ∧ PP s p st W ∧ Keeps [p] w W ∧
  W.heap[R]? = some (.cells #[.int .i64 0, .string ⟨#[]⟩, .float .f64 0, .slice none 0 0, .complex .f64 0 0] 50 (0, 0)) ∧ W.heap[B]? = some (.cells #[c0, c1, c2, v, c4] 50 (0, 0))
def BlockI (s : ByteArray) (p R B : Nat) (w : World) (c0 c1 c2 c4 : Value) (rec : Rec) (l' : List Node) (st' : PSt) (g : Nat) (W : World) : Prop :=
 ∃ (l : List Node) (st : PSt), stmtsF s rec g l st = some (l', st') ∧ l.length + g ≤ 60 ∧ KidsI s p R B w c0 c1 c2 c4 l st W

/-- append of a node, as a step of a region that draws. -/
theorem step_app_node {ops : Array Oper} {o : Oper} {a : Act} {w : World} {K : Act → World → Prop} {Q : Exit → Act → World → Prop} {Z : Prop} (hgd : o.guard = none) (s y : Operand)
  (ho : o.op = .call { callee := .builtin .append, args := #[s, y], argTypes := #[47, 47] })
  {b G cap : Nat} {T S : Nat → Prop} {l : List Node} {x : Node} {v c0 c1 c2 c3 c4 : Value} (hs : a.eval s = v) (hy : a.eval y = .slice (some ⟨G, 0, none⟩) 1 cap) (hO : OwnL NodeE 50 5 w b T l v)
  (hG : w.heap[G]? = some (.cells #[c0, c1, c2, c3, c4] 50 (0, 0))) (hm : NodeR w S x (.agg #[c0, c1, c2, c3, c4])) (hd : ∀ g, S g → ¬ T g) (hS : ∀ g, S g → g < w.heap.size) (hT : ∀ g, T g → g < w.heap.size) (hb : b ≤ w.heap.size) (hl : l.length ≤ 100000)
  (h : ∀ v' w' fl, (∀ x ∈ fl, T x) → Keeps fl w w' → OwnL NodeE 50 5 w' b (fun g => T g ∨ S g ∨ (w.heap.size ≤ g ∧ g < w'.heap.size)) (l ++ [x]) v' → K (a.put o.dst v') w') :
  if Region.wanted o (yielded ops a.tmps) = true then Oper.wp Tryz.prog o a w K Q else Z := by
 obtain ⟨i, hi, hz, hsz, hby⟩ := info50
 obtain ⟨xs, hown, ht, hx⟩ := hO
 refine step_append_lies w hgd s y 47 ho b 50 i _ 5 72 Tryz.underlying47 hi hz hsz hby rfl (by decide) v l.length xs hs hown ⟨G, 0, none⟩ 1 cap [c0, c1, c2, c3, c4] hy rfl (fun j u hj => ?_) (nodeL.one (S := S) (a := x) ⟨rfl, hm⟩) (by omega) (by simp [maxLen]; omega) (by omega) hb _ rfl fun g cp w1 h1 h2 h3 h4 => ?_
 ·have := cell_of_heap hG j
  have e1 : (⟨G, 0, none⟩ : Addr).add j = ⟨G, j, none⟩ := by simp [Addr.add]; intro h; rw [h]
  rw [e1, this]; simpa using hj
 ·obtain ⟨q1, fl, q2, q3⟩ := own_grown nodeL hown ht hx (c := [c0, c1, c2, c3, c4]) ⟨rfl, hm⟩ hd hS hT h1 h2 h3 h4
  exact h _ _ fl q2 q3 q1

theorem block_lv {s : ByteArray} {p : Nat} {st st1 st2 st3 st4 : PSt} {l' : List Node} {rec : Rec} {kd : Int} {tx : ByteArray} {nm fr te : Nat} (hrec : ∀ st st' n, rec .stmt st = some (n, st') → Hands s p st st' n 127)
  (ht : nextF s st.pos false = some ⟨kd, tx, nm, fr, te⟩) (hw : wantF s st ⟨#[123]⟩ = some st1) (hl : linesA s st1 ⟨#[59]⟩ = some st2) (hx : stmtsF s rec 50 [] st2 = some (l', st3)) (hv : wantF s st3 ⟨#[125]⟩ = some st4) : Hands s p st st4 (.mk 30 ⟨#[]⟩ 0 l' (placeOf s fr).1 (placeOf s fr).2) 107 := by
 intro w h
 have g_p := h.p
 have g_0 : 14 < w.heap.size := Nat.lt_trans g_p (h_lt h.row)
 have HP0 := zh h; have HK0 := zh (Keeps.refl [p] w); have HT := zh ht; have HW := zh hw; have HL : Hid (linesF s ⟨#[59]⟩ (s.size + 2) st1 = some st2) := zh hl; have HRec := zh hrec; have HG := zh hx; have HV := zh hv
 clear h hrec ht hw hl hx hv
 go_enter Tryz.func107, Tryz.ntmps107
 have l_p := h_lt HP0.out.row
 go_wp2_with fail
 refine calls_at (fun W => Keeps [] w W ∧ W.heap[w.heap.size]? = some (.cells #[.int .i64 0, .string ⟨#[]⟩, .float .f64 0, .slice none 0 0, .complex .f64 0 0] 50 (0, 0))) ⟨(by with_reducible repeat (first | exact k0 _ _ | refine kA ?_ _ | refine kD ?_ | refine kS ?_ (by simp) | refine kM ?_ (by simp))), (by simp only [hS, hA, hD, hM, World.size_setCell, World.size_drew, reduceIte, Option.map_some, Obj.put] <;> rfl)⟩ ?_
 rintro w1 ⟨Kw1, cw1_R⟩
 have ⟨n_p_R, n_R_p⟩ := zne l_p
 have o_R : w.heap.size ≤ w.heap.size := Nat.le_refl _
 have g_R : 14 < w.heap.size := Nat.lt_trans g_p l_p
 have HKw1 := zh (HK0.out.trans Kw1 (by simp))
 have HPw1 := zh (HP0.out.keep Kw1)
 have Rw1_R := zh cw1_R
 clear Kw1 cw1_R l_p HK0 HP0
 refine (here_any HPw1.out HT.out).mono ?_
 rintro r e2 ⟨rfl, hk⟩
 have Re2_R := zh (hk.at Rw1_R.out (by simp))
 have HKe2 := zh (HKw1.out.trans hk (by simp))
 have HPe2 := zh (HPw1.out.keep hk)
 clear hk Rw1_R HKw1 HPw1
 have l_p := h_lt HPe2.out.row
 have l_p_1 : p < e2.heap.size + 1 := Nat.lt_add_right 1 l_p
 have l_R := h_lt Re2_R.out
 have l_R_1 : w.heap.size < e2.heap.size + 1 := Nat.lt_add_right 1 l_R
 go_wp2_with fail
 refine calls_at (fun W => Keeps [] e2 W ∧ W.heap[e2.heap.size]? = some (.cells #[.int .i64 kd, .string tx, .float .f64 nm, .int .i64 fr, .int .i64 te] 90 (0, 0)) ∧ W.heap[e2.heap.size + 1]? = some (.cells #[.int .i64 30, .string ⟨#[]⟩, .float .f64 0, .slice none 0 0, .complex .f64 (placeOf s fr).1 (placeOf s fr).2] 50 (0, 0))) ⟨(by with_reducible repeat (first | exact k0 _ _ | refine kA ?_ _ | refine kD ?_ | refine kS ?_ (by simp) | refine kM ?_ (by simp))), (by simp only [hS, hA, hD, hM, World.size_alloc, World.size_setCell, World.size_drew, size_mset, Nat.add_right_cancel_iff, Nat.left_eq_add, Nat.add_eq_left, Nat.reduceEqDiff, Nat.add_assoc, Nat.reduceAdd, Nat.one_ne_zero, Nat.zero_ne_one, reduceIte, Option.map_some, Obj.put] <;> rfl), (by simp only [hS, hA, hD, hM, World.size_alloc, World.size_setCell, World.size_drew, size_mset, Nat.add_right_cancel_iff, Nat.left_eq_add, Nat.add_eq_left, Nat.reduceEqDiff, Nat.add_assoc, Nat.reduceAdd, Nat.one_ne_zero, Nat.zero_ne_one, reduceIte, Option.map_some, Obj.put] <;> rfl)⟩ ?_
 rintro w3 ⟨Kw3, cw3_T, cw3_B⟩
 have ⟨n_p_T, n_T_p⟩ := zne l_p
 have ⟨n_R_T, n_T_R⟩ := zne l_R
 have o_T : w.heap.size ≤ e2.heap.size := HKe2.out.size
 have g_T : 14 < e2.heap.size := Nat.lt_trans g_p l_p
 have ⟨n_p_B, n_B_p⟩ := zne (Nat.lt_add_right 1 l_p)
 have ⟨n_R_B, n_B_R⟩ := zne (Nat.lt_add_right 1 l_R)
 have n_T_B : e2.heap.size ≠ e2.heap.size + 1 := by simp
 have n_B_T : e2.heap.size + 1 ≠ e2.heap.size := by simp
 have o_B : w.heap.size ≤ e2.heap.size + 1 := Nat.le_trans (HKe2.out.size) (Nat.le_add_right _ 1)
 have g_B : 14 < e2.heap.size + 1 := Nat.lt_trans g_p (Nat.lt_add_right 1 l_p)
 have Rw3_R := zh (Kw3.at Re2_R.out (by simp))
 have HKw3 := zh (HKe2.out.trans Kw3 (by simp))
 have HPw3 := zh (HPe2.out.keep Kw3)
 have Rw3_T := zh cw3_T
 have Rw3_B := zh cw3_B
 clear Kw3 cw3_T cw3_B l_p l_p_1 l_R l_R_1 Re2_R HKe2 HPe2
 refine (want_any HPw3.out HW.out).mono ?_
 rintro r e4 ⟨rfl, hp, hk⟩
 have Re4_R := zh (hk.at Rw3_R.out (by simp [n_R_p]))
 have Re4_T := zh (hk.at Rw3_T.out (by simp [n_T_p]))
 have Re4_B := zh (hk.at Rw3_B.out (by simp [n_B_p]))
 have HKe4 := zh (HKw3.out.trans hk (by simp))
 have HPne4 := zh hp
 clear hp
 clear hk Rw3_R Rw3_T Rw3_B HKw3 HPw3
 have l_p := h_lt HPne4.out.row
 have l_R := h_lt Re4_R.out
 have l_T := h_lt Re4_T.out
 have l_B := h_lt Re4_B.out
 go_wp2_with fail
 clear l_p l_R l_T l_B
 refine (lines_any HPne4.out HL.out).mono ?_
 rintro r e5 ⟨rfl, hp, hk⟩
 have Re5_R := zh (hk.at Re4_R.out (by simp [n_R_p]))
 have Re5_T := zh (hk.at Re4_T.out (by simp [n_T_p]))
 have Re5_B := zh (hk.at Re4_B.out (by simp [n_B_p]))
 have HKe5 := zh (HKe4.out.trans hk (by simp))
 have HPne5 := zh hp
 clear hp
 clear hk Re4_R Re4_T Re4_B HKe4 HPne4
 have l_p := h_lt HPne5.out.row
 have l_R := h_lt Re5_R.out
 have l_T := h_lt Re5_T.out
 have l_B := h_lt Re5_B.out
 go_wp2_with fail
 clear l_p l_R l_T l_B
 go_loopg [] 50 (fun g wr => BlockI s p w.heap.size (e2.heap.size + 1) w (.int .i64 30) (.string ⟨#[]⟩) (.float .f64 0) (.complex .f64 (placeOf s fr).1 (placeOf s fr).2) rec l' st3 g wr)
 case atStart => exact ⟨[], st2, HG.out, by simp, _, fun _ => False, 0, OwnL.nil, fun _ h => h.elim, Nat.zero_le _, fun _ h => h.elim, fun h => h, fun h => h, fun h => h, HPne5.out, HKe5.out, Re5_R.out, Re5_B.out⟩
 clear HG
 case round =>
  obtain ⟨l, st1, hG, hlen, v, T, U, hl, up_l, us_l, dn_l, ns_l_p, ns_l_R, ns_l_B, hp, hk, hR, hB⟩ := hrel
  obtain ⟨ka, kc, rfl, -⟩ := hl.slice
  have HL1 := zh hl; have HPr := zh hp; have HKr := zh hk; have RR := zh hR; have RB := zh hB
  clear hl hp hk hR hB
  cases gk with
  | zero => simp [stmtsF] at hG
  | succ f =>
   rw [stmtsF] at hG
   cases ho : isF s st1 (bs [125]) with
   | none => rw [ho] at hG; simp at hG
   | some b =>
    rw [ho] at hG
    simp only [Option.bind_eq_bind, Option.bind_some] at hG
    have HB : Hid (isF s st1 ⟨#[125]⟩ = some b) := zh ho
    clear ho
    cases b with
    | true =>
     simp only [Option.some.injEq, Prod.mk.injEq, if_true] at hG
     obtain ⟨rfl, rfl⟩ := hG
     have l_p := h_lt HPr.out.row
     have l_R := h_lt RR.out
     have l_B := h_lt RB.out
     go_wp2_with fail
     clear l_p l_R l_B
     refine (ok_any HPr.out).mono ?_
     rintro r w' ⟨rfl, hw'⟩
     rw [hw']
     clear hw'
     have l_p := h_lt HPr.out.row
     have l_R := h_lt RR.out
     have l_B := h_lt RB.out
     go_wp2_with fail
     clear l_p l_R l_B
     refine (isF_any HPr.out HB.out).mono ?_
     rintro r e51 ⟨rfl, hk⟩
     have Re51_R := zh (hk.at RR.out (by simp))
     have Re51_B := zh (hk.at RB.out (by simp))
     have HKe51 := zh (HKr.out.trans hk (by simp))
     have HPe51 := zh (HPr.out.keep hk)
     have le51 := zh (OwnL.kp nodeL HL1.out hk (by simp))
     have us_le51 := Nat.le_trans us_l hk.size
     clear hk RR RB HKr HPr HL1 us_l
     have l_p := h_lt HPe51.out.row
     have l_R := h_lt Re51_R.out
     have l_B := h_lt Re51_B.out
     go_wp2_with fail
     clear l_p l_R l_B
     refine (want_any HPe51.out HV.out).mono ?_
     rintro r e52 ⟨rfl, hp, hk⟩
     have Re52_R := zh (hk.at Re51_R.out (by simp [n_R_p]))
     have Re52_B := zh (hk.at Re51_B.out (by simp [n_B_p]))
     have HKe52 := zh (HKe51.out.trans hk (by simp))
     have le52 := zh (OwnL.kp nodeL le51.out hk (by simp [ns_l_p]))
     have us_le52 := Nat.le_trans us_le51 hk.size
     have HPne52 := zh hp
     clear hp
     clear hk Re51_R Re51_B HKe51 le51 us_le51 HPe51
     have l_p := h_lt HPne52.out.row
     obtain ⟨l_R, xR_0, xR_1, xR_2, xR_3, xR_4, yR_0, yR_1, yR_2, yR_3, yR_4⟩ := cf5 Re52_R.out
     obtain ⟨l_B, xB_0, xB_1, xB_2, xB_3, xB_4, yB_0, yB_1, yB_2, yB_3, yB_4⟩ := cf5 Re52_B.out
     go_wp2_with fail
     refine ret_at (v := .agg #[.int .i64 30, .string ⟨#[]⟩, .float .f64 0, .slice ka l.length kc, .complex .f64 (placeOf s fr).1 (placeOf s fr).2]) (fun W => Keeps [w.heap.size] e52 W ∧ W.heap[w.heap.size]? = some (.cells #[.int .i64 30, .string ⟨#[]⟩, .float .f64 0, .slice ka l.length kc, .complex .f64 (placeOf s fr).1 (placeOf s fr).2] 50 (0, 0))) ⟨(by with_reducible repeat (first | exact k0 _ _ | refine kA ?_ _ | refine kD ?_ | refine kS ?_ (by simp) | refine kM ?_ (by simp))), (by simp only [hS, hA, hD, hM, reduceIte, Option.map_some, Obj.put, Re52_R.out, Nat.ne_of_lt l_R, Nat.ne_of_gt l_R] <;> rfl)⟩ (fun w53 hW => ?_) rfl (fun w53 hW => ?_)
     ·obtain ⟨Kw53, cw53_R⟩ := hW
      have q0 := cell_of_heap cw53_R 0
      have q1 := cell_of_heap cw53_R 1
      have q2 := cell_of_heap cw53_R 2
      have q3 := cell_of_heap cw53_R 3
      have q4 := cell_of_heap cw53_R 4
      simp at q0 q1 q2 q3 q4
      simp [results, Tryz.results107, go_sem, q0, q1, q2, q3, q4]
     ·obtain ⟨Kw53, cw53_R⟩ := hW
      have Rw53_B := zh (Kw53.at Re52_B.out (by simp [n_B_R]))
      have HKw53 := zh (HKe52.out.trans Kw53 (by simp [o_R]))
      have HPw53 := zh (HPne52.out.keepN Kw53 (by simp [n_p_R]) (by simp [g_R]))
      have lw53 := zh (OwnL.kp nodeL le52.out Kw53 (by simp [ns_l_R]))
      have us_lw53 := Nat.le_trans us_le52 Kw53.size
      have Rw53_R := zh cw53_R
      clear Kw53 cw53_R l_p l_R xR_0 xR_1 xR_2 xR_3 xR_4 yR_0 yR_1 yR_2 yR_3 yR_4 l_B xB_0 xB_1 xB_2 xB_3 xB_4 yB_0 yB_1 yB_2 yB_3 yB_4 Re52_B HKe52 HPne52 le52 us_le52 Re52_R
      exact ⟨_, rfl, .mk ((kids_of_own lw53.out).to dn_l), HPw53.out, HKw53.out⟩
    | false =>
     simp only [Bool.false_eq_true, if_false] at hG
     cases hm : rec .stmt st1 with
     | none => rw [hm] at hG; simp at hG
     | some y =>
      rw [hm] at hG
      obtain ⟨m, st2⟩ := y
      simp only [Option.bind_some] at hG
      cases hy : linesA s st2 (bs [59]) with
      | none => rw [hy] at hG; simp at hG
      | some st4 =>
       rw [hy] at hG
       simp only [Option.bind_some] at hG
       have HM := zh (HRec.out _ _ _ hm); have HF := zh hG; have HY : Hid (linesF s ⟨#[59]⟩ (s.size + 2) st2 = some st4) := zh hy
       clear hm hG hy
       have l_p := h_lt HPr.out.row
       have l_R := h_lt RR.out
       have l_B := h_lt RB.out
       go_wp2_with fail
       clear l_p l_R l_B
       refine (ok_any HPr.out).mono ?_
       rintro r w' ⟨rfl, hw'⟩
       rw [hw']
       clear hw'
       have l_p := h_lt HPr.out.row
       have l_R := h_lt RR.out
       have l_B := h_lt RB.out
       go_wp2_with fail
       clear l_p l_R l_B
       refine (isF_any HPr.out HB.out).mono ?_
       rintro r e51 ⟨rfl, hk⟩
       have Re51_R := zh (hk.at RR.out (by simp))
       have Re51_B := zh (hk.at RB.out (by simp))
       have HKe51 := zh (HKr.out.trans hk (by simp))
       have HPe51 := zh (HPr.out.keep hk)
       have le51 := zh (OwnL.kp nodeL HL1.out hk (by simp))
       have us_le51 := Nat.le_trans us_l hk.size
       clear hk RR RB HKr HPr HL1 us_l
       have l_p := h_lt HPe51.out.row
       obtain ⟨l_R, xR_0, xR_1, xR_2, xR_3, xR_4, yR_0, yR_1, yR_2, yR_3, yR_4⟩ := cf5 Re51_R.out
       obtain ⟨l_B, xB_0, xB_1, xB_2, xB_3, xB_4, yB_0, yB_1, yB_2, yB_3, yB_4⟩ := cf5 Re51_B.out
       go_upto_region 6 with fail
       have HCm := zh (hands_at HM.out HPe51.out)
       go_cut [] (fun W => KidsI s p w.heap.size (e2.heap.size + 1) w (.int .i64 30) (.string ⟨#[]⟩) (.float .f64 0) (.complex .f64 (placeOf s fr).1 (placeOf s fr).2) (l ++ [m]) ⟨st2.pos, st2.opn, st2.ng⟩ W)
       case first =>
        go_region_law (first
         | (refine step_app_node rfl (.tmp 25) (.tmp 28) rfl rfl rfl (OwnL.kp nodeL hO (Keeps.alloc [] u_ _) (by simp)) (h_new u_ _) (hn.keep0 (Keeps.alloc [] u_ _)) (fun g hs ht => Nat.not_lt_of_le hs.1 (Nat.lt_of_lt_of_le (up_l g ht) us_le51)) (fun g hs => Nat.lt_of_lt_of_le hs.2 (Keeps.alloc [] u_ _).size) (fun g ht => Nat.lt_of_lt_of_le (up_l g ht) (Nat.le_trans us_le51 (Nat.le_trans hk.size (Keeps.alloc [] u_ _).size))) (Nat.le_trans (HKe51.out.size) (Nat.le_trans hk.size (Keeps.alloc [] u_ _).size)) (by omega) ?_; rintro va wa fl hfl hka hown; obtain ⟨ka2, kc2, hva, -⟩ := hown.slice; generalize (l ++ [m]).length = kn at hva; subst hva; have s_B := hka.at (h_alloc r_B) (fun h => ns_l_B (hfl _ h)); have s3 := cell_of_heap s_B 3; have sf3 := frozen_of_heap s_B 3; have l_B2 := h_lt s_B; simp at s3)
         | (refine step_call (f := 127) (vals := #[.pointer (some ⟨p, 0, none⟩)]) rfl _ rfl (by kernel_rfl) (HCm.out _ (by with_reducible repeat (first | exact k0 _ _ | refine kA ?_ _ | refine kD ?_ | refine kS ?_ (by simp) | refine kM ?_ (by simp)))) ?_; rintro v u_ ⟨hn, hp, hk⟩; obtain ⟨mt, mm, ma, ml, mc, mr, mi, rfl, -, -⟩ := hn.shape; have r_B := hk.at Re51_B.out (by simp [n_B_p]); have r_R := hk.at Re51_R.out (by simp [n_R_p]); have hO := OwnL.kp nodeL le51.out hk (by simp [ns_l_p]); have l_B := h_lt r_B; have zB_0 := cell_of_heap r_B 0; have zfB_0 := frozen_of_heap r_B 0; have zB_1 := cell_of_heap r_B 1; have zfB_1 := frozen_of_heap r_B 1; have zB_2 := cell_of_heap r_B 2; have zfB_2 := frozen_of_heap r_B 2; have zB_3 := cell_of_heap r_B 3; have zfB_3 := frozen_of_heap r_B 3; have zB_4 := cell_of_heap r_B 4; have zfB_4 := frozen_of_heap r_B 4; simp at zB_0 zB_1 zB_2 zB_3 zB_4))
        all_goals
         go_wp2_with fail
         go_meet
         case rel =>
          refine inv_at (fun W => Keeps [e2.heap.size + 1] wa W ∧ W.heap[e2.heap.size + 1]? = some (.cells #[.int .i64 30, .string ⟨#[]⟩, .float .f64 0, .slice ka2 kn kc2, .complex .f64 (placeOf s fr).1 (placeOf s fr).2] 50 (0, 0))) ⟨(by with_reducible repeat (first | exact k0 _ _ | refine kA ?_ _ | refine kD ?_ | refine kS ?_ (by simp) | refine kM ?_ (by simp))), (by simp only [heap_set_if, reduceIte, Option.map_some, Obj.put, s_B] <;> rfl)⟩ ?_
          rintro W ⟨hkW, cB⟩
          have hua := Keeps.alloc [] u_ (.cells #[.int .i64 m.kind, .string mt, .float .f64 mm, .slice ma ml mc, .complex .f64 mr mi] 50)
          have hsB : e2.heap.size + 1 < u_.heap.size := l_B
          exact ⟨_, _, W.heap.size, OwnL.kp nodeL hown hkW (by simp only [List.mem_singleton, forall_eq]; exact fun h => h.elim ns_l_B fun h => h.elim (fun h => Nat.not_lt_of_le h.1 (h_lt Re51_B.out)) fun h => Nat.not_lt_of_le h.1 (Nat.lt_of_lt_of_le hsB hua.size)),
           fun x h => h.elim (fun h => Nat.lt_of_lt_of_le (up_l x h) (Nat.le_trans us_le51 (Nat.le_trans hk.size (Nat.le_trans hua.size (Nat.le_trans hka.size hkW.size))))) fun h => h.elim (fun h => Nat.lt_of_lt_of_le h.2 (Nat.le_trans hua.size (Nat.le_trans hka.size hkW.size))) fun h => Nat.lt_of_lt_of_le h.2 hkW.size, Nat.le_refl _,
           fun x h => h.elim (dn_l x) fun h => h.elim (fun h => Nat.le_trans (HKe51.out.size) h.1) fun h => Nat.le_trans (Nat.le_trans (HKe51.out.size) (Nat.le_trans hk.size hua.size)) h.1,
           fun h => h.elim ns_l_p fun h => h.elim (fun h => Nat.not_lt_of_le h.1 (h_lt HPe51.out.row)) fun h => Nat.not_lt_of_le h.1 (Nat.lt_of_lt_of_le (h_lt hp.row) hua.size),
           fun h => h.elim ns_l_R fun h => h.elim (fun h => Nat.not_lt_of_le h.1 (h_lt Re51_R.out)) fun h => Nat.not_lt_of_le h.1 (Nat.lt_of_lt_of_le (h_lt r_R) hua.size),
           fun h => h.elim ns_l_B fun h => h.elim (fun h => Nat.not_lt_of_le h.1 (h_lt Re51_B.out)) fun h => Nat.not_lt_of_le h.1 (Nat.lt_of_lt_of_le hsB hua.size),
           ((hp.keep hua).keepN hka (fun h => ns_l_p (hfl _ h)) (fun x h => Nat.lt_of_lt_of_le g_0 (dn_l x (hfl x h)))).keepN hkW (by simp [n_p_B]) (by simp [g_B]),
           (((HKe51.out.trans hk (by simp)).trans hua (by simp)).trans hka (fun x h => .inr (dn_l x (hfl x h)))).trans hkW (by simp [o_B]),
           hkW.at (hka.at (h_alloc r_R) (fun h => ns_l_R (hfl _ h))) (by simp [n_R_B]), cB⟩
       case rest =>
        obtain ⟨v2, T2, U2, hl, up_k, us_k, dn_k, ns_k_p, ns_k_R, ns_k_B, hp, hk, hR, hB⟩ := hcut
        have HL2 := zh hl; have HPc := zh hp; have HKc := zh hk; have RR2 := zh hR; have RB2 := zh hB
        clear hl hp hk hR hB
        have l_p := h_lt HPc.out.row
        have l_R := h_lt RR2.out
        have l_B := h_lt RB2.out
        go_wp2_with fail
        clear l_p l_R l_B
        refine (lines_any HPc.out HY.out).mono ?_
        rintro r e81 ⟨rfl, hp, hk⟩
        have Re81_R := zh (hk.at RR2.out (by simp [n_R_p]))
        have Re81_B := zh (hk.at RB2.out (by simp [n_B_p]))
        have HKe81 := zh (HKc.out.trans hk (by simp))
        have ke81 := zh (OwnL.kp nodeL HL2.out hk (by simp [ns_k_p]))
        have us_ke81 := Nat.le_trans us_k hk.size
        have HPne81 := zh hp
        clear hp
        clear hk RR2 RB2 HKc HL2 us_k HPc
        have l_p := h_lt HPne81.out.row
        have l_R := h_lt Re81_R.out
        have l_B := h_lt Re81_B.out
        go_wp2_with fail
        go_roundg f
        case measure => omega
        case rel =>
         exact ⟨l ++ [m], st4, HF.out, by rw [List.length_append, List.length_singleton]; omega, v2, T2, U2, ke81.out, up_k, us_ke81, dn_k, ns_k_p, ns_k_R, ns_k_B, HPne81.out, HKe81.out, Re81_R.out, Re81_B.out⟩
end Go.Proofs.YtkfillfkbhbbjaaGreatDoor
namespace Go.Proofs.YtkfillfkbhbbjaaGreatDoor
open Go.RowKit

/-- What each of the parser's functions does. -/
def HandsW (s : ByteArray) (p : Nat) : Wh → PSt → PSt → Node → Prop
 | .expr, st, st', n => Hands s p st st' n 109
 | .cond, st, st', n => Hands s p st st' n 130
 | .or, st, st', n => Hands s p st st' n 170
 | .and, st, st', n => Hands s p st st' n 193
 | .in, st, st', n => Hands s p st st' n 226
 | .match, st, st', n => Hands s p st st' n 256
 | .compare, st, st', n => Hands s p st st' n 266
 | .concat, st, st', n => Hands s p st st' n 270
 | .sum, st, st', n => Hands s p st st' n 273
 | .product, st, st', n => Hands s p st st' n 281
 | .unary, st, st', n => Hands s p st st' n 286
 | .power, st, st', n => Hands s p st st' n 288
 | .post, st, st', n => Hands s p st st' n 290
 | .primary, st, st', n => Hands s p st st' n 292
 | .operand, st, st', n => Hands s p st st' n 294
 | .dollar, st, st', n => Hands s p st st' n 296
 | .call t re im, st, st', n => t.to ≤ s.size → t.kind = 6 ∨ t.kind = 7 → CallH s p t re im st st' n
 | .simple, st, st', n => Hands s p st st' n 165
 | .stmt, st, st', n => Hands s p st st' n 127
 | .block, st, st', n => Hands s p st st' n 107

theorem hereF_some {s : ByteArray} {st : PSt} {op : Bool} {t : Tok} {re im : Nat} (h : hereF s st op = some (t, re, im)) : nextF s st.pos op = some t ∧ re = (placeOf s t.fr).1 ∧ im = (placeOf s t.fr).2 := by
 unfold hereF at h
 cases ht : nextF s st.pos op with
 | none => rw [ht] at h; simp at h
 | some t2 =>
  rw [ht] at h
  simp only [Option.bind_eq_bind, Option.bind_some, Option.some.injEq, Prod.mk.injEq] at h
  obtain ⟨rfl, h2⟩ := h
  exact ⟨rfl, by rw [h2], by rw [h2]⟩

theorem same_false {a : ByteArray} {l : List UInt8} (h : same a (bs l) = false) : (a.toList == l) = false := by
 rw [← same_eq, show (bs l).toList = l from by rw [bs, ByteArray.toList_mk]] at h; exact h
theorem same_true {a : ByteArray} {l : List UInt8} (h : same a (bs l) = true) : (a.toList == l) = true := by
 rw [← same_eq, show (bs l).toList = l from by rw [bs, ByteArray.toList_mk]] at h; exact h

theorem take_false {s : ByteArray} {st st' : PSt} {x : ByteArray} (h : takeF s st x = some (false, st')) : st' = st ∧ notF s st x = some () := by
 unfold takeF at h
 unfold notF isF
 cases ht : nextF s st.pos false with
 | none => rw [ht] at h; simp at h
 | some t =>
  rw [ht] at h
  simp only [Option.bind_eq_bind, Option.bind_some] at h ⊢
  cases hb : isT t x
  ·rw [hb] at h
   simp only [Bool.false_eq_true, if_false, Option.some.injEq, Prod.mk.injEq, true_and] at h
   exact ⟨h.symm, by simp⟩
  ·rw [hb] at h
   simp only [if_true] at h
   cases ho : opnF x st.opn with
   | none => rw [ho] at h; simp at h
   | some o => rw [ho] at h; simp at h

section
variable {s : ByteArray} {p : Nat} {rec : Rec} (hrec : ∀ wh st st' n, rec wh st = some (n, st') → HandsW s p wh st st' n)
include hrec

theorem st_expr {st st' : PSt} {n : Node} (hx : step s rec .expr st = some (n, st')) : HandsW s p .expr st st' n := by
 simp only [step, Option.bind_eq_bind, Option.bind_eq_some_iff, Prod.exists] at hx
 obtain ⟨n1, st1, h1, hx⟩ := hx
 have hs : Hands s p st st1 n1 130 := hrec _ _ _ _ h1
 cases hl : lval n1 with
 | false =>
  rw [hl] at hx
  simp only [Bool.false_eq_true, if_false, Option.some.injEq, Prod.mk.injEq] at hx
  obtain ⟨rfl, rfl⟩ := hx
  exact expr_no hs hl
 | true =>
  rw [hl] at hx
  simp only [if_true, Option.bind_eq_some_iff, Prod.exists] at hx
  obtain ⟨x, st2, h2, hx⟩ := hx
  cases x with
  | none =>
   obtain ⟨rfl, hno⟩ := oneF_none h2
   simp only [Option.some.injEq, Prod.mk.injEq] at hx
   obtain ⟨rfl, rfl⟩ := hx
   exact expr_none hs hl hno
  | some y =>
   obtain ⟨x, re, im⟩ := y
   obtain ⟨t, ht, h9, ha, rfl, rfl, rfl, rfl⟩ := oneF_some h2
   simp only [Option.bind_eq_some_iff, Prod.exists, Option.some.injEq, Prod.mk.injEq] at hx
   obtain ⟨m, st3, h3, rfl, rfl⟩ := hx
   exact expr_yes hs hl ht h9 ha (hrec _ _ _ _ h3)
theorem st_post {st st' : PSt} {n : Node} (hx : step s rec .post st = some (n, st')) : HandsW s p .post st st' n := by
 simp only [step, Option.bind_eq_bind, Option.bind_eq_some_iff, Prod.exists] at hx
 obtain ⟨n1, st1, h1, hx⟩ := hx
 have hs : Hands s p st st1 n1 292 := hrec _ _ _ _ h1
 cases hl : lval n1 with
 | false =>
  rw [hl] at hx
  simp only [Bool.false_eq_true, if_false, Option.some.injEq, Prod.mk.injEq] at hx
  obtain ⟨rfl, rfl⟩ := hx
  exact post_no hs hl
 | true =>
  rw [hl] at hx
  simp only [if_true, Option.bind_eq_some_iff, Prod.exists] at hx
  obtain ⟨x, st2, h2, hx⟩ := hx
  cases x with
  | none =>
   obtain ⟨rfl, hno⟩ := oneF_none h2
   simp only [Option.some.injEq, Prod.mk.injEq] at hx
   obtain ⟨rfl, rfl⟩ := hx
   exact post_none hs hl hno
  | some y =>
   obtain ⟨x, re, im⟩ := y
   obtain ⟨t, ht, h9, ha, rfl, rfl, rfl, rfl⟩ := oneF_some h2
   simp only [Option.some.injEq, Prod.mk.injEq] at hx
   obtain ⟨rfl, rfl⟩ := hx
   exact post_yes hs hl ht h9 ha
theorem st_cond {st st' : PSt} {n : Node} (hx : step s rec .cond st = some (n, st')) : HandsW s p .cond st st' n := by
 simp only [step, Option.bind_eq_bind, Option.bind_eq_some_iff, Prod.exists, Option.some.injEq, Prod.mk.injEq] at hx
 obtain ⟨n1, st1, h1, _, h2, rfl, rfl⟩ := hx
 exact cond_lv (hrec _ _ _ _ h1) h2
theorem st_or {st st' : PSt} {n : Node} (hx : step s rec .or st = some (n, st')) : HandsW s p .or st st' n := by
 simp only [step, Option.bind_eq_bind, Option.bind_eq_some_iff, Prod.exists, Option.some.injEq, Prod.mk.injEq] at hx
 obtain ⟨n1, st1, h1, _, h2, rfl, rfl⟩ := hx
 exact or_lv (hrec _ _ _ _ h1) h2
theorem st_and {st st' : PSt} {n : Node} (hx : step s rec .and st = some (n, st')) : HandsW s p .and st st' n := by
 simp only [step, Option.bind_eq_bind, Option.bind_eq_some_iff, Prod.exists, Option.some.injEq, Prod.mk.injEq] at hx
 obtain ⟨n1, st1, h1, _, h2, rfl, rfl⟩ := hx
 exact and_lv (hrec _ _ _ _ h1) h2
theorem st_in {st st' : PSt} {n : Node} (hx : step s rec .in st = some (n, st')) : HandsW s p .in st st' n := by
 simp only [step, Option.bind_eq_bind, Option.bind_eq_some_iff, Prod.exists, Option.some.injEq, Prod.mk.injEq] at hx
 obtain ⟨n1, st1, h1, _, h2, rfl, rfl⟩ := hx
 exact in_lv (hrec _ _ _ _ h1) h2
theorem st_match {st st' : PSt} {n : Node} (hx : step s rec .match st = some (n, st')) : HandsW s p .match st st' n := by
 simp only [step, Option.bind_eq_bind, Option.bind_eq_some_iff, Prod.exists, Option.some.injEq, Prod.mk.injEq] at hx
 obtain ⟨n1, st1, h1, _, h2, rfl, rfl⟩ := hx
 exact match_lv (hrec _ _ _ _ h1) h2
theorem st_compare {st st' : PSt} {n : Node} (hx : step s rec .compare st = some (n, st')) : HandsW s p .compare st st' n := by
 simp only [step, Option.bind_eq_bind, Option.bind_eq_some_iff, Prod.exists, Option.some.injEq, Prod.mk.injEq] at hx
 obtain ⟨n1, st1, h1, _, h2, rfl, rfl⟩ := hx
 cases hg : st1.ng with
 | true => rw [hg] at h2; exact compare_true_lv (hrec _ _ _ _ h1) h2 hg
 | false => rw [hg] at h2; exact compare_false_lv (hrec _ _ _ _ h1) h2 hg
theorem st_product {st st' : PSt} {n : Node} (hx : step s rec .product st = some (n, st')) : HandsW s p .product st st' n := by
 simp only [step, Option.bind_eq_bind, Option.bind_eq_some_iff, Prod.exists, Option.some.injEq, Prod.mk.injEq] at hx
 obtain ⟨n1, st1, h1, _, h2, rfl, rfl⟩ := hx
 exact product_lv (hrec _ _ _ _ h1) h2
theorem st_unary {st st' : PSt} {n : Node} (hx : step s rec .unary st = some (n, st')) : HandsW s p .unary st st' n := by
 simp only [step, Option.bind_eq_bind, Option.bind_eq_some_iff] at hx
 obtain ⟨_, h1, hx⟩ := hx
 exact unary_lv h1 (hrec _ _ _ _ hx)
theorem st_power {st st' : PSt} {n : Node} (hx : step s rec .power st = some (n, st')) : HandsW s p .power st st' n := by
 simp only [step, Option.bind_eq_bind, Option.bind_eq_some_iff, Prod.exists, Option.some.injEq, Prod.mk.injEq] at hx
 obtain ⟨n1, st1, h1, _, h2, rfl, rfl⟩ := hx
 exact power_lv (hrec _ _ _ _ h1) h2
theorem st_primary {st st' : PSt} {n : Node} (hx : step s rec .primary st = some (n, st')) : HandsW s p .primary st st' n := by
 simp only [step, Option.bind_eq_bind, Option.bind_eq_some_iff] at hx
 obtain ⟨_, h1, _, h2, hx⟩ := hx
 exact primary_lv h1 h2 (hrec _ _ _ _ hx)
theorem st_dollar {st st' : PSt} {n : Node} (hx : step s rec .dollar st = some (n, st')) : HandsW s p .dollar st st' n := by
 simp only [step, Option.bind_eq_bind, Option.bind_eq_some_iff] at hx
 obtain ⟨_, h1, _, h2, hx⟩ := hx
 exact dollar_lv h1 h2 (hrec _ _ _ _ hx)
theorem st_operand {st st' : PSt} {n : Node} (hx : step s rec .operand st = some (n, st')) : HandsW s p .operand st st' n := by
 intro w h
 simp only [step, Option.bind_eq_bind, Option.bind_eq_some_iff] at hx
 obtain ⟨t, ht, hx⟩ := hx
 have hle := (nextF_le ht h.le).2.1
 obtain ⟨kd, tx, nm, fr, te⟩ := t
 simp only at hx hle
 by_cases h2 : kd = 2
 ·subst h2
  simp only [if_true, Option.some.injEq, Prod.mk.injEq] at hx
  obtain ⟨rfl, rfl⟩ := hx
  exact operand_num ht w h
 rw [if_neg h2] at hx
 by_cases h3 : kd = 3
 ·subst h3
  simp only [if_true] at hx
  split at hx
  ·rename_i h256
   simp only [Option.some.injEq, Prod.mk.injEq] at hx
   obtain ⟨rfl, rfl⟩ := hx
   exact operand_text ht (by omega) w h
  ·cases hx
 rw [if_neg h3] at hx
 by_cases h5 : kd = 5
 ·subst h5
  simp only [if_true, Option.bind_eq_some_iff, Prod.exists] at hx
  obtain ⟨b, st2, hb, hx⟩ := hx
  cases b with
  | true =>
   simp only [if_true, Option.bind_eq_some_iff, Prod.exists, Option.some.injEq, Prod.mk.injEq] at hx
   obtain ⟨l, st3, h4, st4, hw, rfl, rfl⟩ := hx
   exact operand_index ht hb (inside_any (list_any (fun a b c hh => hrec _ _ _ _ hh) h4) hw) w h
  | false =>
   simp only [Bool.false_eq_true, if_false, Option.some.injEq, Prod.mk.injEq] at hx
   obtain ⟨rfl, rfl⟩ := hx
   exact operand_var ht hb w h
 rw [if_neg h5] at hx
 by_cases h67 : kd = 6 ∨ kd = 7
 ·rw [if_pos h67] at hx
  have hc : CallH s p ⟨kd, tx, nm, fr, te⟩ _ _ st st' n := hrec _ _ _ _ hx hle h67
  rcases h67 with rfl | rfl
  ·exact operand_call6 ht hc w h
  ·exact operand_call7 ht hc w h
 rw [if_neg h67] at hx
 by_cases h9 : kd = 9 ∧ same tx (bs [36]) = true
 ·rw [if_pos h9] at hx
  obtain ⟨rfl, hs⟩ := h9
  simp only [Option.bind_eq_some_iff, Prod.exists, Option.some.injEq, Prod.mk.injEq] at hx
  obtain ⟨m, st2, hm, rfl, rfl⟩ := hx
  exact operand_dollar ht (same_true hs) (hrec _ _ _ _ hm) w h
 ·rw [if_neg h9] at hx; cases hx
theorem st_call {st st' : PSt} {n : Node} {t : Tok} {re im : Nat} (hx : step s rec (.call t re im) st = some (n, st')) : HandsW s p (.call t re im) st st' n := by
 intro hle h67
 obtain ⟨kd, tx, nm, fr, te⟩ := t
 simp only [step] at hx
 simp only at hle h67
 split at hx
 ·cases hx
 rename_i hno
 simp only [Bool.or_eq_true, not_or, Bool.not_eq_true] at hno
 obtain ⟨hs1, hs2⟩ := hno
 simp only [Option.bind_eq_bind, Option.bind_eq_some_iff] at hx
 obtain ⟨st1, hw, b, hb, hx⟩ := hx
 cases b with
 | true =>
  simp only [if_true, Option.bind_eq_some_iff, Option.some.injEq, Prod.mk.injEq] at hx
  obtain ⟨st3, hv, rfl, rfl⟩ := hx
  rcases h67 with rfl | rfl
  ·exact call_6n hle (same_false hs1) (same_false hs2) hw hb hv
  ·exact call_7n hle (same_false hs1) (same_false hs2) hw hb hv
 | false =>
  simp only [Bool.false_eq_true, if_false, Option.bind_eq_some_iff, Prod.exists, Option.some.injEq, Prod.mk.injEq] at hx
  obtain ⟨l, st2, h4, st3, hv, rfl, rfl⟩ := hx
  have hl := list_any (p := p) (fun a b c hh => hrec _ _ _ _ hh) h4
  rcases h67 with rfl | rfl
  ·exact call_6a hle (same_false hs1) (same_false hs2) hw hb hl hv
  ·exact call_7a hle (same_false hs1) (same_false hs2) hw hb hl hv
theorem st_simple {st st' : PSt} {n : Node} (hx : step s rec .simple st = some (n, st')) : HandsW s p .simple st st' n := by
 simp only [step, Option.bind_eq_bind, Option.bind_eq_some_iff, Prod.exists] at hx
 obtain ⟨t, re, im, h0, _, h1, _, h2, b, st2, h3, hx⟩ := hx
 obtain ⟨ht, rfl, rfl⟩ := hereF_some h0
 obtain ⟨kd, tx, nm, fr, te⟩ := t
 cases b with
 | true =>
  simp only [if_true, Option.some.injEq, Prod.mk.injEq] at hx
  obtain ⟨rfl, rfl⟩ := hx
  exact simple_next ht h1 h2 h3
 | false =>
  simp only [Bool.false_eq_true, if_false, Option.bind_eq_some_iff, Prod.exists] at hx
  obtain ⟨_, h4, _, h5, _, h6, b, st3, h7, hx⟩ := hx
  have hs2 : st2 = st ∧ notF s st (bs [110, 101, 120, 116]) = some () := take_false h3
  obtain ⟨rfl, h3'⟩ := hs2
  cases b with
  | true =>
   simp only [if_true, Option.bind_eq_some_iff, Prod.exists] at hx
   obtain ⟨c, h8, hx⟩ := hx
   cases c with
   | false => simp at hx
   | true =>
    simp only [if_true, Option.bind_eq_some_iff, Prod.exists, Option.some.injEq, Prod.mk.injEq] at hx
    obtain ⟨l, st4, h9, _, h10, rfl, rfl⟩ := hx
    simp only [outsF, Option.bind_eq_bind, Option.bind_eq_some_iff, Prod.exists, Option.some.injEq, Prod.mk.injEq] at h9
    obtain ⟨_, h11, l2, st5, h12, rfl, rfl⟩ := h9
    exact simple_print ht h1 h2 h3' h4 h5 h6 h7 h8 (outs_any h11 (list_any (fun a b c hh => hrec _ _ _ _ hh) h12)) h10
  | false =>
   obtain ⟨rfl, h7'⟩ := take_false h7
   simp only [Bool.false_eq_true, if_false, Option.bind_eq_some_iff, Prod.exists, Option.some.injEq, Prod.mk.injEq] at hx
   obtain ⟨_, h8, m, st4, h9, rfl, rfl⟩ := hx
   exact simple_expr ht h1 h2 h3' h4 h5 h6 h7' h8 (hrec _ _ _ _ h9)
theorem st_stmt {st st' : PSt} {n : Node} (hx : step s rec .stmt st = some (n, st')) : HandsW s p .stmt st st' n := by
 simp only [step, Option.bind_eq_bind, Option.bind_eq_some_iff, Prod.exists, Option.some.injEq, Prod.mk.injEq] at hx
 obtain ⟨t, re, im, h0, _, h1, _, h2, _, h3, _, h4, _, h5, m, st2, h6, st3, h7, rfl, rfl⟩ := hx
 obtain ⟨ht, rfl, rfl⟩ := hereF_some h0
 obtain ⟨kd, tx, nm, fr, te⟩ := t
 exact stmt_lv ht h1 h2 h3 h4 h5 (hrec _ _ _ _ h6) h7
theorem st_block {st st' : PSt} {n : Node} (hx : step s rec .block st = some (n, st')) : HandsW s p .block st st' n := by
 simp only [step, Option.bind_eq_bind, Option.bind_eq_some_iff, Prod.exists, Option.some.injEq, Prod.mk.injEq] at hx
 obtain ⟨t, re, im, h0, st1, h1, st2, h2, l, st3, h3, st4, h4, rfl, rfl⟩ := hx
 obtain ⟨ht, rfl, rfl⟩ := hereF_some h0
 obtain ⟨kd, tx, nm, fr, te⟩ := t
 exact block_lv (fun a b c hh => hrec _ _ _ _ hh) ht h1 h2 h3 h4
theorem st_any {wh : Wh} {st st' : PSt} {n : Node} (hx : step s rec wh st = some (n, st')) : HandsW s p wh st st' n := by
 cases wh with
 | expr => exact st_expr hrec hx
 | cond => exact st_cond hrec hx
 | or => exact st_or hrec hx
 | and => exact st_and hrec hx
 | «in» => exact st_in hrec hx
 | «match» => exact st_match hrec hx
 | compare => exact st_compare hrec hx
 | concat => exact concat_lv (fun a b c hh => hrec _ _ _ _ hh) hx
 | sum => exact sum_lv (fun a b c hh => hrec _ _ _ _ hh) hx
 | product => exact st_product hrec hx
 | unary => exact st_unary hrec hx
 | power => exact st_power hrec hx
 | post => exact st_post hrec hx
 | primary => exact st_primary hrec hx
 | operand => exact st_operand hrec hx
 | dollar => exact st_dollar hrec hx
 | call t re im => exact st_call hrec hx
 | simple => exact st_simple hrec hx
 | stmt => exact st_stmt hrec hx
 | block => exact st_block hrec hx
end
theorem parN_hands {s : ByteArray} {p : Nat} : ∀ (k : Nat) (wh : Wh) (st st' : PSt) (n : Node), parN s k wh st = some (n, st') → HandsW s p wh st st' n
 | 0, _, _, _, _, h => by simp [parN] at h
 | k + 1, _, _, _, _, h => st_any (parN_hands k) h
end Go.Proofs.YtkfillfkbhbbjaaGreatDoor
