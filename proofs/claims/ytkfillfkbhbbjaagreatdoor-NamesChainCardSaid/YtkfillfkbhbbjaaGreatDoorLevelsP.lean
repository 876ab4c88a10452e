/- simple, walked. Made by a program (parse.py, walk.py). -/
import Derived.Test.YtkfillfkbhbbjaaGreatDoorLevelsN
set_option maxRecDepth 100000
set_option maxHeartbeats 4000000
set_option linter.unusedSimpArgs false
set_option linter.unusedVariables false
namespace Go.Proofs.YtkfillfkbhbbjaaGreatDoor
open Go.RowKit

theorem begins_k2 {s : ByteArray} {p : Nat} {st : PSt} {w : World} (h : PP s p st w) {kd : Int} {tx : ByteArray} {nm fr te : Nat} (ht : nextF s st.pos true = some ⟨2, tx, nm, fr, te⟩)  :
  Calls Tryz.prog 190 #[.pointer (some ⟨p, 0, none⟩)] w fun r w' => r = .returned (.bool true) ∧ Keeps [] w w' := by
 have g_p := h.p
 have HP0 := zh h; have HK0 := zh (Keeps.refl [] w); have HT := zh ht

 clear h ht
 go_enter Tryz.func190, Tryz.ntmps190
 have l_p := h_lt HP0.out.row
 go_wp2_with fail
 clear l_p
 refine (see_any HP0.out HT.out).mono ?_
 rintro r e1 ⟨rfl, hk⟩
 have HKe1 := zh (HK0.out.trans hk (by simp))
 have HPe1 := zh (HP0.out.keep hk)
 clear hk HK0 HP0
 have l_p := h_lt HPe1.out.row
 go_wp2_with fail
 refine calls_at (fun W => Keeps [] e1 W ∧ W.heap[e1.heap.size]? = some (.cells #[.int .i64 2, .string tx, .float .f64 nm, .int .i64 fr, .int .i64 te] 90 (0, 0))) ⟨(by with_reducible repeat (first | exact k0 _ _ | refine kA ?_ _ | refine kD ?_ | refine kS ?_ (by simp) | refine kM ?_ (by simp))), (by simp only [hS, hA, hD, hM, World.size_setCell, World.size_drew, reduceIte, Option.map_some, Obj.put] <;> rfl)⟩ ?_
 rintro w2 ⟨Kw2, cw2_T⟩
 have ⟨n_p_T, n_T_p⟩ := zne l_p
 have o_T : w.heap.size ≤ e1.heap.size := HKe1.out.size
 have g_T : 14 < e1.heap.size := Nat.lt_trans g_p l_p
 have HKw2 := zh (HKe1.out.trans Kw2 (by simp))
 have HPw2 := zh (HPe1.out.keep Kw2)
 have Rw2_T := zh cw2_T
 clear Kw2 cw2_T l_p HKe1 HPe1
 refine (ok_any HPw2.out).mono ?_
 rintro r w' ⟨rfl, hw'⟩
 rw [hw']
 clear hw'
 have l_p := h_lt HPw2.out.row
 have l_T := h_lt Rw2_T.out
 go_wp2_with fail
 refine ret_at (v := .bool true) (fun W => Keeps [] w2 W) (by with_reducible repeat (first | exact k0 _ _ | refine kA ?_ _ | refine kD ?_ | refine kS ?_ (by simp) | refine kM ?_ (by simp))) (fun w3 hW => ?_) rfl (fun w3 hW => ?_)
 ·have Kw3 : Keeps [] w2 w3 := hW
  simp [results, Tryz.results190, go_sem]
 ·have Kw3 : Keeps [] w2 w3 := hW
  have Rw3_T := zh (Kw3.at Rw2_T.out (by simp))
  have HKw3 := zh (HKw2.out.trans Kw3 (by simp))
  have HPw3 := zh (HPw2.out.keep Kw3)
  clear Kw3 l_p l_T Rw2_T HKw2 HPw2
  exact ⟨rfl, HKw3.out⟩

theorem begins_k3 {s : ByteArray} {p : Nat} {st : PSt} {w : World} (h : PP s p st w) {kd : Int} {tx : ByteArray} {nm fr te : Nat} (ht : nextF s st.pos true = some ⟨3, tx, nm, fr, te⟩)  :
  Calls Tryz.prog 190 #[.pointer (some ⟨p, 0, none⟩)] w fun r w' => r = .returned (.bool true) ∧ Keeps [] w w' := by
 have g_p := h.p
 have HP0 := zh h; have HK0 := zh (Keeps.refl [] w); have HT := zh ht

 clear h ht
 go_enter Tryz.func190, Tryz.ntmps190
 have l_p := h_lt HP0.out.row
 go_wp2_with fail
 clear l_p
 refine (see_any HP0.out HT.out).mono ?_
 rintro r e1 ⟨rfl, hk⟩
 have HKe1 := zh (HK0.out.trans hk (by simp))
 have HPe1 := zh (HP0.out.keep hk)
 clear hk HK0 HP0
 have l_p := h_lt HPe1.out.row
 go_wp2_with fail
 refine calls_at (fun W => Keeps [] e1 W ∧ W.heap[e1.heap.size]? = some (.cells #[.int .i64 3, .string tx, .float .f64 nm, .int .i64 fr, .int .i64 te] 90 (0, 0))) ⟨(by with_reducible repeat (first | exact k0 _ _ | refine kA ?_ _ | refine kD ?_ | refine kS ?_ (by simp) | refine kM ?_ (by simp))), (by simp only [hS, hA, hD, hM, World.size_setCell, World.size_drew, reduceIte, Option.map_some, Obj.put] <;> rfl)⟩ ?_
 rintro w2 ⟨Kw2, cw2_T⟩
 have ⟨n_p_T, n_T_p⟩ := zne l_p
 have o_T : w.heap.size ≤ e1.heap.size := HKe1.out.size
 have g_T : 14 < e1.heap.size := Nat.lt_trans g_p l_p
 have HKw2 := zh (HKe1.out.trans Kw2 (by simp))
 have HPw2 := zh (HPe1.out.keep Kw2)
 have Rw2_T := zh cw2_T
 clear Kw2 cw2_T l_p HKe1 HPe1
 refine (ok_any HPw2.out).mono ?_
 rintro r w' ⟨rfl, hw'⟩
 rw [hw']
 clear hw'
 have l_p := h_lt HPw2.out.row
 have l_T := h_lt Rw2_T.out
 go_wp2_with fail
 refine ret_at (v := .bool true) (fun W => Keeps [] w2 W) (by with_reducible repeat (first | exact k0 _ _ | refine kA ?_ _ | refine kD ?_ | refine kS ?_ (by simp) | refine kM ?_ (by simp))) (fun w3 hW => ?_) rfl (fun w3 hW => ?_)
 ·have Kw3 : Keeps [] w2 w3 := hW
  simp [results, Tryz.results190, go_sem]
 ·have Kw3 : Keeps [] w2 w3 := hW
  have Rw3_T := zh (Kw3.at Rw2_T.out (by simp))
  have HKw3 := zh (HKw2.out.trans Kw3 (by simp))
  have HPw3 := zh (HPw2.out.keep Kw3)
  clear Kw3 l_p l_T Rw2_T HKw2 HPw2
  exact ⟨rfl, HKw3.out⟩

theorem begins_k5 {s : ByteArray} {p : Nat} {st : PSt} {w : World} (h : PP s p st w) {kd : Int} {tx : ByteArray} {nm fr te : Nat} (ht : nextF s st.pos true = some ⟨5, tx, nm, fr, te⟩)  :
  Calls Tryz.prog 190 #[.pointer (some ⟨p, 0, none⟩)] w fun r w' => r = .returned (.bool true) ∧ Keeps [] w w' := by
 have g_p := h.p
 have HP0 := zh h; have HK0 := zh (Keeps.refl [] w); have HT := zh ht

 clear h ht
 go_enter Tryz.func190, Tryz.ntmps190
 have l_p := h_lt HP0.out.row
 go_wp2_with fail
 clear l_p
 refine (see_any HP0.out HT.out).mono ?_
 rintro r e1 ⟨rfl, hk⟩
 have HKe1 := zh (HK0.out.trans hk (by simp))
 have HPe1 := zh (HP0.out.keep hk)
 clear hk HK0 HP0
 have l_p := h_lt HPe1.out.row
 go_wp2_with fail
 refine calls_at (fun W => Keeps [] e1 W ∧ W.heap[e1.heap.size]? = some (.cells #[.int .i64 5, .string tx, .float .f64 nm, .int .i64 fr, .int .i64 te] 90 (0, 0))) ⟨(by with_reducible repeat (first | exact k0 _ _ | refine kA ?_ _ | refine kD ?_ | refine kS ?_ (by simp) | refine kM ?_ (by simp))), (by simp only [hS, hA, hD, hM, World.size_setCell, World.size_drew, reduceIte, Option.map_some, Obj.put] <;> rfl)⟩ ?_
 rintro w2 ⟨Kw2, cw2_T⟩
 have ⟨n_p_T, n_T_p⟩ := zne l_p
 have o_T : w.heap.size ≤ e1.heap.size := HKe1.out.size
 have g_T : 14 < e1.heap.size := Nat.lt_trans g_p l_p
 have HKw2 := zh (HKe1.out.trans Kw2 (by simp))
 have HPw2 := zh (HPe1.out.keep Kw2)
 have Rw2_T := zh cw2_T
 clear Kw2 cw2_T l_p HKe1 HPe1
 refine (ok_any HPw2.out).mono ?_
 rintro r w' ⟨rfl, hw'⟩
 rw [hw']
 clear hw'
 have l_p := h_lt HPw2.out.row
 have l_T := h_lt Rw2_T.out
 go_wp2_with fail
 refine ret_at (v := .bool true) (fun W => Keeps [] w2 W) (by with_reducible repeat (first | exact k0 _ _ | refine kA ?_ _ | refine kD ?_ | refine kS ?_ (by simp) | refine kM ?_ (by simp))) (fun w3 hW => ?_) rfl (fun w3 hW => ?_)
 ·have Kw3 : Keeps [] w2 w3 := hW
  simp [results, Tryz.results190, go_sem]
 ·have Kw3 : Keeps [] w2 w3 := hW
  have Rw3_T := zh (Kw3.at Rw2_T.out (by simp))
  have HKw3 := zh (HKw2.out.trans Kw3 (by simp))
  have HPw3 := zh (HPw2.out.keep Kw3)
  clear Kw3 l_p l_T Rw2_T HKw2 HPw2
  exact ⟨rfl, HKw3.out⟩

theorem begins_k6 {s : ByteArray} {p : Nat} {st : PSt} {w : World} (h : PP s p st w) {kd : Int} {tx : ByteArray} {nm fr te : Nat} (ht : nextF s st.pos true = some ⟨6, tx, nm, fr, te⟩)  :
  Calls Tryz.prog 190 #[.pointer (some ⟨p, 0, none⟩)] w fun r w' => r = .returned (.bool true) ∧ Keeps [] w w' := by
 have g_p := h.p
 have HP0 := zh h; have HK0 := zh (Keeps.refl [] w); have HT := zh ht

 clear h ht
 go_enter Tryz.func190, Tryz.ntmps190
 have l_p := h_lt HP0.out.row
 go_wp2_with fail
 clear l_p
 refine (see_any HP0.out HT.out).mono ?_
 rintro r e1 ⟨rfl, hk⟩
 have HKe1 := zh (HK0.out.trans hk (by simp))
 have HPe1 := zh (HP0.out.keep hk)
 clear hk HK0 HP0
 have l_p := h_lt HPe1.out.row
 go_wp2_with fail
 refine calls_at (fun W => Keeps [] e1 W ∧ W.heap[e1.heap.size]? = some (.cells #[.int .i64 6, .string tx, .float .f64 nm, .int .i64 fr, .int .i64 te] 90 (0, 0))) ⟨(by with_reducible repeat (first | exact k0 _ _ | refine kA ?_ _ | refine kD ?_ | refine kS ?_ (by simp) | refine kM ?_ (by simp))), (by simp only [hS, hA, hD, hM, World.size_setCell, World.size_drew, reduceIte, Option.map_some, Obj.put] <;> rfl)⟩ ?_
 rintro w2 ⟨Kw2, cw2_T⟩
 have ⟨n_p_T, n_T_p⟩ := zne l_p
 have o_T : w.heap.size ≤ e1.heap.size := HKe1.out.size
 have g_T : 14 < e1.heap.size := Nat.lt_trans g_p l_p
 have HKw2 := zh (HKe1.out.trans Kw2 (by simp))
 have HPw2 := zh (HPe1.out.keep Kw2)
 have Rw2_T := zh cw2_T
 clear Kw2 cw2_T l_p HKe1 HPe1
 refine (ok_any HPw2.out).mono ?_
 rintro r w' ⟨rfl, hw'⟩
 rw [hw']
 clear hw'
 have l_p := h_lt HPw2.out.row
 have l_T := h_lt Rw2_T.out
 go_wp2_with fail
 refine ret_at (v := .bool true) (fun W => Keeps [] w2 W) (by with_reducible repeat (first | exact k0 _ _ | refine kA ?_ _ | refine kD ?_ | refine kS ?_ (by simp) | refine kM ?_ (by simp))) (fun w3 hW => ?_) rfl (fun w3 hW => ?_)
 ·have Kw3 : Keeps [] w2 w3 := hW
  simp [results, Tryz.results190, go_sem]
 ·have Kw3 : Keeps [] w2 w3 := hW
  have Rw3_T := zh (Kw3.at Rw2_T.out (by simp))
  have HKw3 := zh (HKw2.out.trans Kw3 (by simp))
  have HPw3 := zh (HPw2.out.keep Kw3)
  clear Kw3 l_p l_T Rw2_T HKw2 HPw2
  exact ⟨rfl, HKw3.out⟩

theorem begins_k7 {s : ByteArray} {p : Nat} {st : PSt} {w : World} (h : PP s p st w) {kd : Int} {tx : ByteArray} {nm fr te : Nat} (ht : nextF s st.pos true = some ⟨7, tx, nm, fr, te⟩)  :
  Calls Tryz.prog 190 #[.pointer (some ⟨p, 0, none⟩)] w fun r w' => r = .returned (.bool true) ∧ Keeps [] w w' := by
 have g_p := h.p
 have HP0 := zh h; have HK0 := zh (Keeps.refl [] w); have HT := zh ht

 clear h ht
 go_enter Tryz.func190, Tryz.ntmps190
 have l_p := h_lt HP0.out.row
 go_wp2_with fail
 clear l_p
 refine (see_any HP0.out HT.out).mono ?_
 rintro r e1 ⟨rfl, hk⟩
 have HKe1 := zh (HK0.out.trans hk (by simp))
 have HPe1 := zh (HP0.out.keep hk)
 clear hk HK0 HP0
 have l_p := h_lt HPe1.out.row
 go_wp2_with fail
 refine calls_at (fun W => Keeps [] e1 W ∧ W.heap[e1.heap.size]? = some (.cells #[.int .i64 7, .string tx, .float .f64 nm, .int .i64 fr, .int .i64 te] 90 (0, 0))) ⟨(by with_reducible repeat (first | exact k0 _ _ | refine kA ?_ _ | refine kD ?_ | refine kS ?_ (by simp) | refine kM ?_ (by simp))), (by simp only [hS, hA, hD, hM, World.size_setCell, World.size_drew, reduceIte, Option.map_some, Obj.put] <;> rfl)⟩ ?_
 rintro w2 ⟨Kw2, cw2_T⟩
 have ⟨n_p_T, n_T_p⟩ := zne l_p
 have o_T : w.heap.size ≤ e1.heap.size := HKe1.out.size
 have g_T : 14 < e1.heap.size := Nat.lt_trans g_p l_p
 have HKw2 := zh (HKe1.out.trans Kw2 (by simp))
 have HPw2 := zh (HPe1.out.keep Kw2)
 have Rw2_T := zh cw2_T
 clear Kw2 cw2_T l_p HKe1 HPe1
 refine (ok_any HPw2.out).mono ?_
 rintro r w' ⟨rfl, hw'⟩
 rw [hw']
 clear hw'
 have l_p := h_lt HPw2.out.row
 have l_T := h_lt Rw2_T.out
 go_wp2_with fail
 refine ret_at (v := .bool true) (fun W => Keeps [] w2 W) (by with_reducible repeat (first | exact k0 _ _ | refine kA ?_ _ | refine kD ?_ | refine kS ?_ (by simp) | refine kM ?_ (by simp))) (fun w3 hW => ?_) rfl (fun w3 hW => ?_)
 ·have Kw3 : Keeps [] w2 w3 := hW
  simp [results, Tryz.results190, go_sem]
 ·have Kw3 : Keeps [] w2 w3 := hW
  have Rw3_T := zh (Kw3.at Rw2_T.out (by simp))
  have HKw3 := zh (HKw2.out.trans Kw3 (by simp))
  have HPw3 := zh (HPw2.out.keep Kw3)
  clear Kw3 l_p l_T Rw2_T HKw2 HPw2
  exact ⟨rfl, HKw3.out⟩

theorem begins_k9 {s : ByteArray} {p : Nat} {st : PSt} {w : World} (h : PP s p st w) {kd : Int} {tx : ByteArray} {nm fr te : Nat} (ht : nextF s st.pos true = some ⟨9, tx, nm, fr, te⟩)  :
  Calls Tryz.prog 190 #[.pointer (some ⟨p, 0, none⟩)] w fun r w' => r = .returned (.bool (among ⟨#[36, 32, 40, 32, 43, 43, 32, 45, 45, 32, 43, 32, 45, 32, 33]⟩ tx)) ∧ Keeps [] w w' := by
 have g_p := h.p
 have HP0 := zh h; have HK0 := zh (Keeps.refl [] w); have HT := zh ht
 have HA := zh (fun W => among_any ⟨#[36, 32, 40, 32, 43, 43, 32, 45, 45, 32, 43, 32, 45, 32, 33]⟩ tx (by decide) W)
 clear h ht
 go_enter Tryz.func190, Tryz.ntmps190
 have l_p := h_lt HP0.out.row
 go_wp2_with fail
 clear l_p
 refine (see_any HP0.out HT.out).mono ?_
 rintro r e1 ⟨rfl, hk⟩
 have HKe1 := zh (HK0.out.trans hk (by simp))
 have HPe1 := zh (HP0.out.keep hk)
 clear hk HK0 HP0
 have l_p := h_lt HPe1.out.row
 go_wp2_with fail
 refine calls_at (fun W => Keeps [] e1 W ∧ W.heap[e1.heap.size]? = some (.cells #[.int .i64 9, .string tx, .float .f64 nm, .int .i64 fr, .int .i64 te] 90 (0, 0))) ⟨(by with_reducible repeat (first | exact k0 _ _ | refine kA ?_ _ | refine kD ?_ | refine kS ?_ (by simp) | refine kM ?_ (by simp))), (by simp only [hS, hA, hD, hM, World.size_setCell, World.size_drew, reduceIte, Option.map_some, Obj.put] <;> rfl)⟩ ?_
 rintro w2 ⟨Kw2, cw2_T⟩
 have ⟨n_p_T, n_T_p⟩ := zne l_p
 have o_T : w.heap.size ≤ e1.heap.size := HKe1.out.size
 have g_T : 14 < e1.heap.size := Nat.lt_trans g_p l_p
 have HKw2 := zh (HKe1.out.trans Kw2 (by simp))
 have HPw2 := zh (HPe1.out.keep Kw2)
 have Rw2_T := zh cw2_T
 clear Kw2 cw2_T l_p HKe1 HPe1
 refine (ok_any HPw2.out).mono ?_
 rintro r w' ⟨rfl, hw'⟩
 rw [hw']
 clear hw'
 have l_p := h_lt HPw2.out.row
 obtain ⟨l_T, xT_0, xT_1, xT_2, xT_3, xT_4, yT_0, yT_1, yT_2, yT_3, yT_4⟩ := cf5 Rw2_T.out
 go_wp2_with fail
 clear l_p l_T xT_0 xT_1 xT_2 xT_3 xT_4 yT_0 yT_1 yT_2 yT_3 yT_4
 refine (HA.out _).mono ?_
 rintro r w' ⟨rfl, hw'⟩
 rw [hw']
 clear hw'
 have l_p := h_lt HPw2.out.row
 have l_T := h_lt Rw2_T.out
 go_wp2_with fail
 refine ret_at (v := .bool (among ⟨#[36, 32, 40, 32, 43, 43, 32, 45, 45, 32, 43, 32, 45, 32, 33]⟩ tx)) (fun W => Keeps [] w2 W) (by with_reducible repeat (first | exact k0 _ _ | refine kA ?_ _ | refine kD ?_ | refine kS ?_ (by simp) | refine kM ?_ (by simp))) (fun w3 hW => ?_) rfl (fun w3 hW => ?_)
 ·have Kw3 : Keeps [] w2 w3 := hW
  simp [results, Tryz.results190, go_sem]
 ·have Kw3 : Keeps [] w2 w3 := hW
  have Rw3_T := zh (Kw3.at Rw2_T.out (by simp))
  have HKw3 := zh (HKw2.out.trans Kw3 (by simp))
  have HPw3 := zh (HPw2.out.keep Kw3)
  clear Kw3 l_p l_T Rw2_T HKw2 HPw2
  exact ⟨rfl, HKw3.out⟩

theorem begins_else {s : ByteArray} {p : Nat} {st : PSt} {w : World} (h : PP s p st w) {kd : Int} {tx : ByteArray} {nm fr te : Nat} (ht : nextF s st.pos true = some ⟨kd, tx, nm, fr, te⟩) (n2 : (kd == 2) = false) (n3 : (kd == 3) = false) (n4 : (kd == 4) = false) (n5 : (kd == 5) = false) (n6 : (kd == 6) = false) (n7 : (kd == 7) = false) (n9 : (kd == 9) = false) :
  Calls Tryz.prog 190 #[.pointer (some ⟨p, 0, none⟩)] w fun r w' => r = .returned (.bool false) ∧ Keeps [] w w' := by
 have g_p := h.p
 have HP0 := zh h; have HK0 := zh (Keeps.refl [] w); have HT := zh ht

 clear h ht
 go_enter Tryz.func190, Tryz.ntmps190
 have l_p := h_lt HP0.out.row
 go_wp2_with fail
 clear l_p
 refine (see_any HP0.out HT.out).mono ?_
 rintro r e1 ⟨rfl, hk⟩
 have HKe1 := zh (HK0.out.trans hk (by simp))
 have HPe1 := zh (HP0.out.keep hk)
 clear hk HK0 HP0
 have l_p := h_lt HPe1.out.row
 go_wp2_with fail
 refine ret_at (v := .bool false) (fun W => Keeps [] e1 W ∧ W.heap[e1.heap.size]? = some (.cells #[.int .i64 kd, .string tx, .float .f64 nm, .int .i64 fr, .int .i64 te] 90 (0, 0))) ⟨(by with_reducible repeat (first | exact k0 _ _ | refine kA ?_ _ | refine kD ?_ | refine kS ?_ (by simp) | refine kM ?_ (by simp))), (by simp only [hS, hA, hD, hM, World.size_setCell, World.size_drew, reduceIte, Option.map_some, Obj.put] <;> rfl)⟩ (fun w2 hW => ?_) rfl (fun w2 hW => ?_)
 ·obtain ⟨Kw2, cw2_T⟩ := hW
  simp [results, Tryz.results190, go_sem]
 ·obtain ⟨Kw2, cw2_T⟩ := hW
  have ⟨n_p_T, n_T_p⟩ := zne l_p
  have o_T : w.heap.size ≤ e1.heap.size := HKe1.out.size
  have g_T : 14 < e1.heap.size := Nat.lt_trans g_p l_p
  have HKw2 := zh (HKe1.out.trans Kw2 (by simp))
  have HPw2 := zh (HPe1.out.keep Kw2)
  have Rw2_T := zh cw2_T
  clear Kw2 cw2_T l_p HKe1 HPe1
  exact ⟨rfl, HKw2.out⟩

theorem kind4 {s : ByteArray} {i : Nat} {op : Bool} {t : Tok} (h : nextF s i op = some t) : t.kind ≠ 4 := by
 have hk : ∀ (s t : ByteArray) (e : Nat), kindF s t e ≠ 4 := by
  intro s t e
  unfold kindF
  split
  ·decide
  ·split
   ·decide
   ·split <;> decide
 rw [nextF] at h
 cases hsk : skipF s (s.size + 1) (min i s.size) with
 | none => rw [hsk] at h; simp at h
 | some a =>
  rw [hsk] at h
  simp only [Option.bind_eq_bind, Option.bind_some] at h
  split at h
  ·obtain rfl := Option.some.inj h; simp only; decide
  ·split at h
   ·obtain rfl := Option.some.inj h; simp only; decide
   ·split at h
    ·cases hwe : wordEndF s (s.size + 1) a with
     | none => rw [hwe] at h; simp at h
     | some e =>
      rw [hwe] at h
      simp only [Option.bind_some, Option.some.injEq] at h
      subst h
      exact hk _ _ _
    ·split at h
     ·rw [textF] at h
      cases hce : closesF s 34 (s.size + 1) (a + 1) with
      | none => rw [hce] at h; simp at h
      | some e =>
       rw [hce] at h
       simp only [Option.bind_eq_bind, Option.bind_some] at h
       split at h
       ·obtain rfl := Option.some.inj h; simp only; decide
       ·cases h
     ·split at h
      ·cases h
      ·rw [otherF] at h
       cases hnu : numeralF s a with
       | none => rw [hnu] at h; simp at h
       | some e =>
        rw [hnu] at h
        simp only [Option.bind_eq_bind, Option.bind_some] at h
        split at h
        ·split at h
         ·obtain rfl := Option.some.inj h; simp only; decide
         ·cases h
        ·cases hsg : signF s a _ with
         | none => rw [hsg] at h; simp at h
         | some x =>
          rw [hsg] at h
          simp only [Option.bind_some, Option.some.injEq] at h
          subst h
          simp only; decide
theorem begins_any {s : ByteArray} {p : Nat} {st : PSt} {w : World} (h : PP s p st w) {b : Bool} (hx : beginsF s st = some b) :
  Calls Tryz.prog 190 #[.pointer (some ⟨p, 0, none⟩)] w fun r w' => r = .returned (.bool b) ∧ Keeps [] w w' := by
 unfold beginsF at hx
 cases ht : nextF s st.pos true with
 | none => rw [ht] at hx; simp at hx
 | some t =>
  have h4 := kind4 ht
  rw [ht] at hx
  obtain ⟨kd, tx, nm, fr, te⟩ := t
  simp only [Option.bind_eq_bind, Option.bind_some] at hx h4
  by_cases h5 : kd = 2 ∨ kd = 3 ∨ kd = 5 ∨ kd = 6 ∨ kd = 7
  ·rw [if_pos h5] at hx
   obtain rfl := Option.some.inj hx
   rcases h5 with rfl | rfl | rfl | rfl | rfl
   ·exact begins_k2 (kd := 0) h ht
   ·exact begins_k3 (kd := 0) h ht
   ·exact begins_k5 (kd := 0) h ht
   ·exact begins_k6 (kd := 0) h ht
   ·exact begins_k7 (kd := 0) h ht
  ·rw [if_neg h5] at hx
   by_cases h9 : kd = 9
   ·subst h9
    rw [if_pos rfl] at hx
    obtain rfl := Option.some.inj hx
    exact begins_k9 (kd := 0) h ht
   ·rw [if_neg h9] at hx
    obtain rfl := Option.some.inj hx
    simp only [not_or] at h5
    exact begins_else h ht (beq_false_of_ne h5.1) (beq_false_of_ne h5.2.1) (beq_false_of_ne h4) (beq_false_of_ne h5.2.2.1) (beq_false_of_ne h5.2.2.2.1) (beq_false_of_ne h5.2.2.2.2) (beq_false_of_ne h9)

theorem behind_any {s : ByteArray} {p : Nat} {st : PSt} {w : World} (h : PP s p st w) (hx : notF s st ⟨#[62]⟩ = some ()) :
  Calls Tryz.prog 192 #[.pointer (some ⟨p, 0, none⟩)] w fun r w' => r = .returned (.tuple #[]) ∧ Keeps [] w w' := by
 have g_p := h.p
 have HP0 := zh h; have HK0 := zh (Keeps.refl [] w); have HX := zh hx
 clear h hx
 go_enter Tryz.func192, Tryz.ntmps192
 have l_p := h_lt HP0.out.row
 go_wp2_with fail
 clear l_p
 refine (is_not HP0.out HX.out).mono ?_
 rintro r e1 ⟨rfl, hk⟩
 have HKe1 := zh (HK0.out.trans hk (by simp))
 have HPe1 := zh (HP0.out.keep hk)
 clear hk HK0 HP0
 have l_p := h_lt HPe1.out.row
 go_wp2_with fail
 refine end_at (v := .tuple #[]) (fun W => Keeps [] e1 W) (by with_reducible repeat (first | exact k0 _ _ | refine kA ?_ _ | refine kD ?_ | refine kS ?_ (by simp) | refine kM ?_ (by simp))) (fun w2 hW => ?_) rfl (fun w2 hW => ?_)
 ·have Kw2 : Keeps [] e1 w2 := hW
  simp [results, Tryz.results192, go_sem]
 ·have Kw2 : Keeps [] e1 w2 := hW
  have HKw2 := zh (HKe1.out.trans Kw2 (by simp))
  have HPw2 := zh (HPe1.out.keep Kw2)
  clear Kw2 l_p HKe1 HPe1
  exact ⟨rfl, HKw2.out⟩

theorem take_not {s : ByteArray} {st : PSt} {x : ByteArray} (h : notF s st x = some ()) : takeF s st x = some (false, st) := by
 unfold notF isF at h
 unfold takeF
 cases ht : nextF s st.pos false with
 | none => rw [ht] at h; simp at h
 | some t =>
  rw [ht] at h
  simp only [Option.bind_eq_bind, Option.bind_some] at h ⊢
  cases hb : isT t x
  ·simp [hb]
  ·rw [hb] at h; simp at h

theorem outs_any {s : ByteArray} {p : Nat} {st st2 : PSt} {l : List Node} (hx : notF s st ⟨#[40]⟩ = some ()) (hl : Lists s p ⟨st.pos, st.opn, true⟩ st2 l 224 [.bool true]) : Lists s p st ⟨st2.pos, st2.opn, st.ng⟩ l 191 [] := by
 intro w h
 have g_p := h.p
 have HP0 := zh h; have HK0 := zh (Keeps.refl [p] w); have HX := zh (take_not hx); have HL := zh hl
 clear h hx hl
 go_enter Tryz.func191, Tryz.ntmps191
 obtain ⟨l_p, xp_0, xp_1, xp_2, xp_3, xp_4, xp_5, yp_0, yp_1, yp_2, yp_3, yp_4, yp_5⟩ := cf6 HP0.out.row
 go_wp2_with fail
 refine calls_at (fun W => Keeps [] w W ∧ W.heap[w.heap.size]? = some (.cells #[.string s, .int .i64 st.pos, .int .i64 st.opn, .bool st.ng, .int .i64 0, .complex .f64 0 0] 87 (0, 0))) ⟨(by with_reducible repeat (first | exact k0 _ _ | refine kA ?_ _ | refine kD ?_ | refine kS ?_ (by simp) | refine kM ?_ (by simp))), (by simp only [hS, hA, hD, hM, World.size_setCell, World.size_drew, reduceIte, Option.map_some, Obj.put] <;> rfl)⟩ ?_
 rintro w1 ⟨Kw1, cw1_W⟩
 have ⟨n_p_W, n_W_p⟩ := zne l_p
 have o_W : w.heap.size ≤ w.heap.size := Nat.le_refl _
 have g_W : 14 < w.heap.size := Nat.lt_trans g_p l_p
 have HKw1 := zh (HK0.out.trans Kw1 (by simp))
 have HPw1 := zh (HP0.out.keep Kw1)
 have Rw1_W := zh cw1_W
 clear Kw1 cw1_W l_p xp_0 xp_1 xp_2 xp_3 xp_4 xp_5 yp_0 yp_1 yp_2 yp_3 yp_4 yp_5 HK0 HP0
 refine (take_any HPw1.out HX.out).mono ?_
 rintro r e2 ⟨rfl, hp, hk⟩
 have Re2_W := zh (hk.at Rw1_W.out (by simp [n_W_p]))
 have HKe2 := zh (HKw1.out.trans hk (by simp))
 have HPne2 := zh hp
 clear hp
 clear hk Rw1_W HKw1 HPw1
 obtain ⟨l_p, xp_0, xp_1, xp_2, xp_3, xp_4, xp_5, yp_0, yp_1, yp_2, yp_3, yp_4, yp_5⟩ := cf6 HPne2.out.row
 have l_W := h_lt Re2_W.out
 go_wp2_with fail
 refine calls_at (fun W => Keeps [p] e2 W ∧ W.heap[p]? = some (.cells #[.string s, .int .i64 st.pos, .int .i64 st.opn, .bool true, .int .i64 0, .complex .f64 0 0] 87 (0, 0))) ⟨(by with_reducible repeat (first | exact k0 _ _ | refine kA ?_ _ | refine kD ?_ | refine kS ?_ (by simp) | refine kM ?_ (by simp))), (by simp only [hS, hA, hD, hM, reduceIte, Option.map_some, Obj.put, HPne2.out.row, Nat.ne_of_lt l_p, Nat.ne_of_gt l_p] <;> rfl)⟩ ?_
 rintro w3 ⟨Kw3, cw3_p⟩
 have Rw3_W := zh (Kw3.at Re2_W.out (by simp [n_W_p]))
 have HKw3 := zh (HKe2.out.trans Kw3 (by simp))
 have HPw3 : Hid (PP s p ⟨st.pos, st.opn, true⟩ w3) := zh (HPne2.out.upd Kw3 (by simp [g_p]) cw3_p (by first | assumption | exact HPne2.out.le) HPne2.out.ob)
 clear Kw3 cw3_p l_p xp_0 xp_1 xp_2 xp_3 xp_4 xp_5 yp_0 yp_1 yp_2 yp_3 yp_4 yp_5 l_W Re2_W HKe2 HPne2
 refine (HL.out _ HPw3.out).mono ?_
 rintro r e4 ⟨v, rfl, hn, hp, hk⟩
 have Re4_W := zh (hk.at Rw3_W.out (by simp [n_W_p]))
 have HKe4 := zh (HKw3.out.trans hk (by simp))
 have HPne4 := zh hp
 have le4 := zh hn.seg
 have o_l : w.heap.size ≤ w3.heap.size := HKw3.out.size
 have ns_l_p : ¬ (Seg w3.heap.size e4.heap.size) (p) := fun h => Nat.not_lt_of_le h.1 (h_lt HPw3.out.row)
 have ns_l_W : ¬ (Seg w3.heap.size e4.heap.size) (w.heap.size) := fun h => Nat.not_lt_of_le h.1 (h_lt Rw3_W.out)
 have up_l : ∀ g, (Seg w3.heap.size e4.heap.size) g → g < e4.heap.size := fun _ h => h.2
 have dn_l : ∀ g, (Seg w3.heap.size e4.heap.size) g → w.heap.size ≤ g := fun _ h => Nat.le_trans o_l h.1
 obtain ⟨la, ll, lc, rfl⟩ := hn.slice
 clear hn hp
 clear hk Rw3_W HKw3 HPw3
 obtain ⟨l_p, xp_0, xp_1, xp_2, xp_3, xp_4, xp_5, yp_0, yp_1, yp_2, yp_3, yp_4, yp_5⟩ := cf6 HPne4.out.row
 obtain ⟨l_W, xW_0, xW_1, xW_2, xW_3, xW_4, xW_5, yW_0, yW_1, yW_2, yW_3, yW_4, yW_5⟩ := cf6 Re4_W.out
 go_wp2_with fail
 refine ret_at (v := .slice la ll lc) (fun W => Keeps [p] e4 W ∧ W.heap[p]? = some (.cells #[.string s, .int .i64 st2.pos, .int .i64 st2.opn, .bool st.ng, .int .i64 0, .complex .f64 0 0] 87 (0, 0))) ⟨(by with_reducible repeat (first | exact k0 _ _ | refine kA ?_ _ | refine kD ?_ | refine kS ?_ (by simp) | refine kM ?_ (by simp))), (by simp only [hS, hA, hD, hM, reduceIte, Option.map_some, Obj.put, HPne4.out.row, Nat.ne_of_lt l_p, Nat.ne_of_gt l_p] <;> rfl)⟩ (fun w5 hW => ?_) rfl (fun w5 hW => ?_)
 ·obtain ⟨Kw5, cw5_p⟩ := hW
  simp [results, Tryz.results191, go_sem]
 ·obtain ⟨Kw5, cw5_p⟩ := hW
  have Rw5_W := zh (Kw5.at Re4_W.out (by simp [n_W_p]))
  have HKw5 := zh (HKe4.out.trans Kw5 (by simp))
  have HPw5 : Hid (PP s p ⟨st2.pos, st2.opn, st.ng⟩ w5) := zh (HPne4.out.upd Kw5 (by simp [g_p]) cw5_p (by first | assumption | exact HPne4.out.le) HPne4.out.ob)
  have lw5 := zh (le4.out.kp Kw5 (by simp [ns_l_p]))
  have us_lw5 := Nat.le_trans (Nat.le_refl e4.heap.size) Kw5.size
  clear Kw5 cw5_p l_p xp_0 xp_1 xp_2 xp_3 xp_4 xp_5 yp_0 yp_1 yp_2 yp_3 yp_4 yp_5 l_W xW_0 xW_1 xW_2 xW_3 xW_4 xW_5 yW_0 yW_1 yW_2 yW_3 yW_4 yW_5 Re4_W HKe4 HPne4 le4
  exact ⟨_, rfl, lw5.out.to dn_l, HPw5.out, HKw5.out⟩
end Go.Proofs.YtkfillfkbhbbjaaGreatDoor
namespace Go.Proofs.YtkfillfkbhbbjaaGreatDoor
open Go.RowKit

theorem simple_next {s : ByteArray} {p : Nat} {st : PSt} {kd : Int} {tx : ByteArray} {nm fr te : Nat} (ht : nextF s st.pos true = some ⟨kd, tx, nm, fr, te⟩) (hn_break : notF s st ⟨#[98, 114, 101, 97, 107]⟩ = some ()) (hn_continue : notF s st ⟨#[99, 111, 110, 116, 105, 110, 117, 101]⟩ = some ()) {st2 : PSt} (hx : takeF s st ⟨#[110, 101, 120, 116]⟩ = some (true, st2)) : Hands s p st st2 (.mk 38 ⟨#[]⟩ 0 [] (placeOf s fr).1 (placeOf s fr).2) 165 := by
 intro w h
 have g_p := h.p
 have HP0 := zh h; have HK0 := zh (Keeps.refl [p] w); have HT := zh ht; have HN_break := zh (take_not hn_break); have HN_continue := zh (take_not hn_continue); have HX := zh hx
 clear h ht hn_break hn_continue hx
 go_enter Tryz.func165, Tryz.ntmps165
 have l_p := h_lt HP0.out.row
 go_wp2_with fail
 refine calls_at (fun W => Keeps [] w W ∧ W.heap[w.heap.size]? = some (.cells #[.int .i64 0, .string ⟨#[]⟩, .float .f64 0, .slice none 0 0, .complex .f64 0 0] 50 (0, 0))) ⟨(by with_reducible repeat (first | exact k0 _ _ | refine kA ?_ _ | refine kD ?_ | refine kS ?_ (by simp) | refine kM ?_ (by simp))), (by simp only [hS, hA, hD, hM, World.size_setCell, World.size_drew, reduceIte, Option.map_some, Obj.put] <;> rfl)⟩ ?_
 rintro w1 ⟨Kw1, cw1_R⟩
 have ⟨n_p_R, n_R_p⟩ := zne l_p
 have o_R : w.heap.size ≤ w.heap.size := Nat.le_refl _
 have g_R : 14 < w.heap.size := Nat.lt_trans g_p l_p
 have HKw1 := zh (HK0.out.trans Kw1 (by simp))
 have HPw1 := zh (HP0.out.keep Kw1)
 have Rw1_R := zh cw1_R
 clear Kw1 cw1_R l_p HK0 HP0
 refine (here_any HPw1.out HT.out).mono ?_
 rintro r e2 ⟨rfl, hk⟩
 have Re2_R := zh (hk.at Rw1_R.out (by simp))
 have HKe2 := zh (HKw1.out.trans hk (by simp))
 have HPe2 := zh (HPw1.out.keep hk)
 clear hk Rw1_R HKw1 HPw1
 have l_p := h_lt HPe2.out.row
 have l_R := h_lt Re2_R.out
 go_wp2_with fail
 refine calls_at (fun W => Keeps [] e2 W ∧ W.heap[e2.heap.size]? = some (.cells #[.int .i64 kd, .string tx, .float .f64 nm, .int .i64 fr, .int .i64 te] 90 (0, 0))) ⟨(by with_reducible repeat (first | exact k0 _ _ | refine kA ?_ _ | refine kD ?_ | refine kS ?_ (by simp) | refine kM ?_ (by simp))), (by simp only [hS, hA, hD, hM, World.size_setCell, World.size_drew, reduceIte, Option.map_some, Obj.put] <;> rfl)⟩ ?_
 rintro w3 ⟨Kw3, cw3_T⟩
 have ⟨n_p_T, n_T_p⟩ := zne l_p
 have ⟨n_R_T, n_T_R⟩ := zne l_R
 have o_T : w.heap.size ≤ e2.heap.size := HKe2.out.size
 have g_T : 14 < e2.heap.size := Nat.lt_trans g_p l_p
 have Rw3_R := zh (Kw3.at Re2_R.out (by simp))
 have HKw3 := zh (HKe2.out.trans Kw3 (by simp))
 have HPw3 := zh (HPe2.out.keep Kw3)
 have Rw3_T := zh cw3_T
 clear Kw3 cw3_T l_p l_R Re2_R HKe2 HPe2
 refine (take_any HPw3.out HN_break.out).mono ?_
 rintro r e4 ⟨rfl, hp, hk⟩
 have Re4_R := zh (hk.at Rw3_R.out (by simp [n_R_p]))
 have Re4_T := zh (hk.at Rw3_T.out (by simp [n_T_p]))
 have HKe4 := zh (HKw3.out.trans hk (by simp))
 have HPne4 := zh hp
 clear hp
 clear hk Rw3_R Rw3_T HKw3 HPw3
 have l_p := h_lt HPne4.out.row
 have l_R := h_lt Re4_R.out
 have l_T := h_lt Re4_T.out
 go_wp2_with fail
 clear l_p l_R l_T
 refine (take_any HPne4.out HN_continue.out).mono ?_
 rintro r e5 ⟨rfl, hp, hk⟩
 have Re5_R := zh (hk.at Re4_R.out (by simp [n_R_p]))
 have Re5_T := zh (hk.at Re4_T.out (by simp [n_T_p]))
 have HKe5 := zh (HKe4.out.trans hk (by simp))
 have HPne5 := zh hp
 clear hp
 clear hk Re4_R Re4_T HKe4 HPne4
 have l_p := h_lt HPne5.out.row
 have l_R := h_lt Re5_R.out
 have l_T := h_lt Re5_T.out
 go_wp2_with fail
 clear l_p l_R l_T
 refine (take_any HPne5.out HX.out).mono ?_
 rintro r e6 ⟨rfl, hp, hk⟩
 have Re6_R := zh (hk.at Re5_R.out (by simp [n_R_p]))
 have Re6_T := zh (hk.at Re5_T.out (by simp [n_T_p]))
 have HKe6 := zh (HKe5.out.trans hk (by simp))
 have HPne6 := zh hp
 clear hp
 clear hk Re5_R Re5_T HKe5 HPne5
 have l_p := h_lt HPne6.out.row
 obtain ⟨l_R, xR_0, xR_1, xR_2, xR_3, xR_4, yR_0, yR_1, yR_2, yR_3, yR_4⟩ := cf5 Re6_R.out
 have l_T := h_lt Re6_T.out
 go_wp2_with fail
 refine ret_at (v := .agg #[.int .i64 38, .string ⟨#[]⟩, .float .f64 0, .slice none 0 0, .complex .f64 (placeOf s fr).1 (placeOf s fr).2]) (fun W => Keeps [w.heap.size] e6 W ∧ W.heap[w.heap.size]? = some (.cells #[.int .i64 38, .string ⟨#[]⟩, .float .f64 0, .slice none 0 0, .complex .f64 (placeOf s fr).1 (placeOf s fr).2] 50 (0, 0))) ⟨(by with_reducible repeat (first | exact k0 _ _ | refine kA ?_ _ | refine kD ?_ | refine kS ?_ (by simp) | refine kM ?_ (by simp))), (by simp only [hS, hA, hD, hM, reduceIte, Option.map_some, Obj.put, Re6_R.out, Nat.ne_of_lt l_R, Nat.ne_of_gt l_R] <;> rfl)⟩ (fun w7 hW => ?_) rfl (fun w7 hW => ?_)
 ·obtain ⟨Kw7, cw7_R⟩ := hW
  have q0 := cell_of_heap cw7_R 0
  have q1 := cell_of_heap cw7_R 1
  have q2 := cell_of_heap cw7_R 2
  have q3 := cell_of_heap cw7_R 3
  have q4 := cell_of_heap cw7_R 4
  simp at q0 q1 q2 q3 q4
  simp [results, Tryz.results165, go_sem, q0, q1, q2, q3, q4]
 ·obtain ⟨Kw7, cw7_R⟩ := hW
  have Rw7_T := zh (Kw7.at Re6_T.out (by simp [n_T_R]))
  have HKw7 := zh (HKe6.out.trans Kw7 (by simp [o_R]))
  have HPw7 := zh (HPne6.out.keepN Kw7 (by simp [n_p_R]) (by simp [g_R]))
  have Rw7_R := zh cw7_R
  clear Kw7 cw7_R l_p l_R xR_0 xR_1 xR_2 xR_3 xR_4 yR_0 yR_1 yR_2 yR_3 yR_4 l_T Re6_T HKe6 HPne6 Re6_R
  exact ⟨_, rfl, .mk .nil, HPw7.out, HKw7.out⟩

theorem simple_print {s : ByteArray} {p : Nat} {st : PSt} {kd : Int} {tx : ByteArray} {nm fr te : Nat} (ht : nextF s st.pos true = some ⟨kd, tx, nm, fr, te⟩) (hn_break : notF s st ⟨#[98, 114, 101, 97, 107]⟩ = some ()) (hn_continue : notF s st ⟨#[99, 111, 110, 116, 105, 110, 117, 101]⟩ = some ()) (hn_next : notF s st ⟨#[110, 101, 120, 116]⟩ = some ()) (hn_exit : notF s st ⟨#[101, 120, 105, 116]⟩ = some ()) (hn_return : notF s st ⟨#[114, 101, 116, 117, 114, 110]⟩ = some ()) (hn_delete : notF s st ⟨#[100, 101, 108, 101, 116, 101]⟩ = some ()) {st2 st3 : PSt} {l : List Node} (hx : takeF s st ⟨#[112, 114, 105, 110, 116]⟩ = some (true, st2)) (hb : beginsF s st2 = some true) (ho : Lists s p st2 st3 l 191 []) (hq : notF s st3 ⟨#[62]⟩ = some ()) : Hands s p st st3 (.mk 42 ⟨#[]⟩ 0 l (placeOf s fr).1 (placeOf s fr).2) 165 := by
 intro w h
 have g_p := h.p
 have HP0 := zh h; have HK0 := zh (Keeps.refl [p] w); have HT := zh ht; have HN_break := zh (take_not hn_break); have HN_continue := zh (take_not hn_continue); have HN_next := zh (take_not hn_next); have HN_exit := zh (take_not hn_exit); have HN_return := zh (take_not hn_return); have HN_delete := zh (take_not hn_delete); have HX := zh hx; have HB := zh hb; have HO := zh ho; have HQ := zh hq
 clear h ht hn_break hn_continue hn_next hn_exit hn_return hn_delete hx hb ho hq
 go_enter Tryz.func165, Tryz.ntmps165
 have l_p := h_lt HP0.out.row
 go_wp2_with fail
 refine calls_at (fun W => Keeps [] w W ∧ W.heap[w.heap.size]? = some (.cells #[.int .i64 0, .string ⟨#[]⟩, .float .f64 0, .slice none 0 0, .complex .f64 0 0] 50 (0, 0))) ⟨(by with_reducible repeat (first | exact k0 _ _ | refine kA ?_ _ | refine kD ?_ | refine kS ?_ (by simp) | refine kM ?_ (by simp))), (by simp only [hS, hA, hD, hM, World.size_setCell, World.size_drew, reduceIte, Option.map_some, Obj.put] <;> rfl)⟩ ?_
 rintro w1 ⟨Kw1, cw1_R⟩
 have ⟨n_p_R, n_R_p⟩ := zne l_p
 have o_R : w.heap.size ≤ w.heap.size := Nat.le_refl _
 have g_R : 14 < w.heap.size := Nat.lt_trans g_p l_p
 have HKw1 := zh (HK0.out.trans Kw1 (by simp))
 have HPw1 := zh (HP0.out.keep Kw1)
 have Rw1_R := zh cw1_R
 clear Kw1 cw1_R l_p HK0 HP0
 refine (here_any HPw1.out HT.out).mono ?_
 rintro r e2 ⟨rfl, hk⟩
 have Re2_R := zh (hk.at Rw1_R.out (by simp))
 have HKe2 := zh (HKw1.out.trans hk (by simp))
 have HPe2 := zh (HPw1.out.keep hk)
 clear hk Rw1_R HKw1 HPw1
 have l_p := h_lt HPe2.out.row
 have l_R := h_lt Re2_R.out
 go_wp2_with fail
 refine calls_at (fun W => Keeps [] e2 W ∧ W.heap[e2.heap.size]? = some (.cells #[.int .i64 kd, .string tx, .float .f64 nm, .int .i64 fr, .int .i64 te] 90 (0, 0))) ⟨(by with_reducible repeat (first | exact k0 _ _ | refine kA ?_ _ | refine kD ?_ | refine kS ?_ (by simp) | refine kM ?_ (by simp))), (by simp only [hS, hA, hD, hM, World.size_setCell, World.size_drew, reduceIte, Option.map_some, Obj.put] <;> rfl)⟩ ?_
 rintro w3 ⟨Kw3, cw3_T⟩
 have ⟨n_p_T, n_T_p⟩ := zne l_p
 have ⟨n_R_T, n_T_R⟩ := zne l_R
 have o_T : w.heap.size ≤ e2.heap.size := HKe2.out.size
 have g_T : 14 < e2.heap.size := Nat.lt_trans g_p l_p
 have Rw3_R := zh (Kw3.at Re2_R.out (by simp))
 have HKw3 := zh (HKe2.out.trans Kw3 (by simp))
 have HPw3 := zh (HPe2.out.keep Kw3)
 have Rw3_T := zh cw3_T
 clear Kw3 cw3_T l_p l_R Re2_R HKe2 HPe2
 refine (take_any HPw3.out HN_break.out).mono ?_
 rintro r e4 ⟨rfl, hp, hk⟩
 have Re4_R := zh (hk.at Rw3_R.out (by simp [n_R_p]))
 have Re4_T := zh (hk.at Rw3_T.out (by simp [n_T_p]))
 have HKe4 := zh (HKw3.out.trans hk (by simp))
 have HPne4 := zh hp
 clear hp
 clear hk Rw3_R Rw3_T HKw3 HPw3
 have l_p := h_lt HPne4.out.row
 have l_R := h_lt Re4_R.out
 have l_T := h_lt Re4_T.out
 go_wp2_with fail
 clear l_p l_R l_T
 refine (take_any HPne4.out HN_continue.out).mono ?_
 rintro r e5 ⟨rfl, hp, hk⟩
 have Re5_R := zh (hk.at Re4_R.out (by simp [n_R_p]))
 have Re5_T := zh (hk.at Re4_T.out (by simp [n_T_p]))
 have HKe5 := zh (HKe4.out.trans hk (by simp))
 have HPne5 := zh hp
 clear hp
 clear hk Re4_R Re4_T HKe4 HPne4
 have l_p := h_lt HPne5.out.row
 have l_R := h_lt Re5_R.out
 have l_T := h_lt Re5_T.out
 go_wp2_with fail
 clear l_p l_R l_T
 refine (take_any HPne5.out HN_next.out).mono ?_
 rintro r e6 ⟨rfl, hp, hk⟩
 have Re6_R := zh (hk.at Re5_R.out (by simp [n_R_p]))
 have Re6_T := zh (hk.at Re5_T.out (by simp [n_T_p]))
 have HKe6 := zh (HKe5.out.trans hk (by simp))
 have HPne6 := zh hp
 clear hp
 clear hk Re5_R Re5_T HKe5 HPne5
 have l_p := h_lt HPne6.out.row
 have l_R := h_lt Re6_R.out
 have l_T := h_lt Re6_T.out
 go_wp2_with fail
 clear l_p l_R l_T
 refine (take_any HPne6.out HN_exit.out).mono ?_
 rintro r e7 ⟨rfl, hp, hk⟩
 have Re7_R := zh (hk.at Re6_R.out (by simp [n_R_p]))
 have Re7_T := zh (hk.at Re6_T.out (by simp [n_T_p]))
 have HKe7 := zh (HKe6.out.trans hk (by simp))
 have HPne7 := zh hp
 clear hp
 clear hk Re6_R Re6_T HKe6 HPne6
 have l_p := h_lt HPne7.out.row
 have l_R := h_lt Re7_R.out
 have l_T := h_lt Re7_T.out
 go_wp2_with fail
 clear l_p l_R l_T
 refine (take_any HPne7.out HN_return.out).mono ?_
 rintro r e8 ⟨rfl, hp, hk⟩
 have Re8_R := zh (hk.at Re7_R.out (by simp [n_R_p]))
 have Re8_T := zh (hk.at Re7_T.out (by simp [n_T_p]))
 have HKe8 := zh (HKe7.out.trans hk (by simp))
 have HPne8 := zh hp
 clear hp
 clear hk Re7_R Re7_T HKe7 HPne7
 have l_p := h_lt HPne8.out.row
 have l_R := h_lt Re8_R.out
 have l_T := h_lt Re8_T.out
 go_wp2_with fail
 clear l_p l_R l_T
 refine (take_any HPne8.out HN_delete.out).mono ?_
 rintro r e9 ⟨rfl, hp, hk⟩
 have Re9_R := zh (hk.at Re8_R.out (by simp [n_R_p]))
 have Re9_T := zh (hk.at Re8_T.out (by simp [n_T_p]))
 have HKe9 := zh (HKe8.out.trans hk (by simp))
 have HPne9 := zh hp
 clear hp
 clear hk Re8_R Re8_T HKe8 HPne8
 have l_p := h_lt HPne9.out.row
 have l_R := h_lt Re9_R.out
 have l_T := h_lt Re9_T.out
 go_wp2_with fail
 clear l_p l_R l_T
 refine (take_any HPne9.out HX.out).mono ?_
 rintro r e10 ⟨rfl, hp, hk⟩
 have Re10_R := zh (hk.at Re9_R.out (by simp [n_R_p]))
 have Re10_T := zh (hk.at Re9_T.out (by simp [n_T_p]))
 have HKe10 := zh (HKe9.out.trans hk (by simp))
 have HPne10 := zh hp
 clear hp
 clear hk Re9_R Re9_T HKe9 HPne9
 have l_p := h_lt HPne10.out.row
 have l_R := h_lt Re10_R.out
 have l_T := h_lt Re10_T.out
 go_wp2_with fail
 refine calls_at (fun W => Keeps [] e10 W ∧ W.heap[e10.heap.size]? = some (.cells #[.int .i64 42, .string ⟨#[]⟩, .float .f64 0, .slice none 0 0, .complex .f64 (placeOf s fr).1 (placeOf s fr).2] 50 (0, 0))) ⟨(by with_reducible repeat (first | exact k0 _ _ | refine kA ?_ _ | refine kD ?_ | refine kS ?_ (by simp) | refine kM ?_ (by simp))), (by simp only [hS, hA, hD, hM, World.size_setCell, World.size_drew, reduceIte, Option.map_some, Obj.put] <;> rfl)⟩ ?_
 rintro w11 ⟨Kw11, cw11_B⟩
 have ⟨n_p_B, n_B_p⟩ := zne l_p
 have ⟨n_R_B, n_B_R⟩ := zne l_R
 have ⟨n_T_B, n_B_T⟩ := zne l_T
 have o_B : w.heap.size ≤ e10.heap.size := HKe10.out.size
 have g_B : 14 < e10.heap.size := Nat.lt_trans g_p l_p
 have Rw11_R := zh (Kw11.at Re10_R.out (by simp))
 have Rw11_T := zh (Kw11.at Re10_T.out (by simp))
 have HKw11 := zh (HKe10.out.trans Kw11 (by simp))
 have HPw11 := zh (HPne10.out.keep Kw11)
 have Rw11_B := zh cw11_B
 clear Kw11 cw11_B l_p l_R l_T Re10_R Re10_T HKe10 HPne10
 refine (begins_any HPw11.out HB.out).mono ?_
 rintro r e12 ⟨rfl, hk⟩
 have Re12_R := zh (hk.at Rw11_R.out (by simp))
 have Re12_T := zh (hk.at Rw11_T.out (by simp))
 have Re12_B := zh (hk.at Rw11_B.out (by simp))
 have HKe12 := zh (HKw11.out.trans hk (by simp))
 have HPe12 := zh (HPw11.out.keep hk)
 clear hk Rw11_R Rw11_T Rw11_B HKw11 HPw11
 have l_p := h_lt HPe12.out.row
 have l_R := h_lt Re12_R.out
 have l_T := h_lt Re12_T.out
 have l_B := h_lt Re12_B.out
 go_wp2_with fail
 clear l_p l_R l_T l_B
 refine (HO.out _ HPe12.out).mono ?_
 rintro r e13 ⟨v, rfl, hn, hp, hk⟩
 have Re13_R := zh (hk.at Re12_R.out (by simp [n_R_p]))
 have Re13_T := zh (hk.at Re12_T.out (by simp [n_T_p]))
 have Re13_B := zh (hk.at Re12_B.out (by simp [n_B_p]))
 have HKe13 := zh (HKe12.out.trans hk (by simp))
 have HPne13 := zh hp
 have le13 := zh hn.seg
 have o_l : w.heap.size ≤ e12.heap.size := HKe12.out.size
 have ns_l_p : ¬ (Seg e12.heap.size e13.heap.size) (p) := fun h => Nat.not_lt_of_le h.1 (h_lt HPe12.out.row)
 have ns_l_R : ¬ (Seg e12.heap.size e13.heap.size) (w.heap.size) := fun h => Nat.not_lt_of_le h.1 (h_lt Re12_R.out)
 have ns_l_T : ¬ (Seg e12.heap.size e13.heap.size) (e2.heap.size) := fun h => Nat.not_lt_of_le h.1 (h_lt Re12_T.out)
 have ns_l_B : ¬ (Seg e12.heap.size e13.heap.size) (e10.heap.size) := fun h => Nat.not_lt_of_le h.1 (h_lt Re12_B.out)
 have up_l : ∀ g, (Seg e12.heap.size e13.heap.size) g → g < e13.heap.size := fun _ h => h.2
 have dn_l : ∀ g, (Seg e12.heap.size e13.heap.size) g → w.heap.size ≤ g := fun _ h => Nat.le_trans o_l h.1
 obtain ⟨la, ll, lc, rfl⟩ := hn.slice
 clear hn hp
 clear hk Re12_R Re12_T Re12_B HKe12 HPe12
 have l_p := h_lt HPne13.out.row
 have l_R := h_lt Re13_R.out
 have l_T := h_lt Re13_T.out
 obtain ⟨l_B, xB_0, xB_1, xB_2, xB_3, xB_4, yB_0, yB_1, yB_2, yB_3, yB_4⟩ := cf5 Re13_B.out
 go_wp2_with fail
 refine calls_at (fun W => Keeps [e10.heap.size] e13 W ∧ W.heap[e10.heap.size]? = some (.cells #[.int .i64 42, .string ⟨#[]⟩, .float .f64 0, .slice la ll lc, .complex .f64 (placeOf s fr).1 (placeOf s fr).2] 50 (0, 0))) ⟨(by with_reducible repeat (first | exact k0 _ _ | refine kA ?_ _ | refine kD ?_ | refine kS ?_ (by simp) | refine kM ?_ (by simp))), (by simp only [hS, hA, hD, hM, reduceIte, Option.map_some, Obj.put, Re13_B.out, Nat.ne_of_lt l_B, Nat.ne_of_gt l_B] <;> rfl)⟩ ?_
 rintro w14 ⟨Kw14, cw14_B⟩
 have Rw14_R := zh (Kw14.at Re13_R.out (by simp [n_R_B]))
 have Rw14_T := zh (Kw14.at Re13_T.out (by simp [n_T_B]))
 have HKw14 := zh (HKe13.out.trans Kw14 (by simp [o_B]))
 have HPw14 := zh (HPne13.out.keepN Kw14 (by simp [n_p_B]) (by simp [g_B]))
 have lw14 := zh (le13.out.kp Kw14 (by simp [ns_l_B]))
 have us_lw14 := Nat.le_trans (Nat.le_refl e13.heap.size) Kw14.size
 have Rw14_B := zh cw14_B
 clear Kw14 cw14_B l_p l_R l_T l_B xB_0 xB_1 xB_2 xB_3 xB_4 yB_0 yB_1 yB_2 yB_3 yB_4 Re13_R Re13_T HKe13 HPne13 le13 Re13_B
 refine (behind_any HPw14.out HQ.out).mono ?_
 rintro r e15 ⟨rfl, hk⟩
 have Re15_R := zh (hk.at Rw14_R.out (by simp))
 have Re15_T := zh (hk.at Rw14_T.out (by simp))
 have Re15_B := zh (hk.at Rw14_B.out (by simp))
 have HKe15 := zh (HKw14.out.trans hk (by simp))
 have HPe15 := zh (HPw14.out.keep hk)
 have le15 := zh (lw14.out.kp hk (by simp))
 have us_le15 := Nat.le_trans us_lw14 hk.size
 clear hk Rw14_R Rw14_T Rw14_B HKw14 HPw14 lw14 us_lw14
 have l_p := h_lt HPe15.out.row
 obtain ⟨l_R, xR_0, xR_1, xR_2, xR_3, xR_4, yR_0, yR_1, yR_2, yR_3, yR_4⟩ := cf5 Re15_R.out
 have l_T := h_lt Re15_T.out
 obtain ⟨l_B, xB_0, xB_1, xB_2, xB_3, xB_4, yB_0, yB_1, yB_2, yB_3, yB_4⟩ := cf5 Re15_B.out
 go_wp2_with fail
 refine ret_at (v := .agg #[.int .i64 42, .string ⟨#[]⟩, .float .f64 0, .slice la ll lc, .complex .f64 (placeOf s fr).1 (placeOf s fr).2]) (fun W => Keeps [w.heap.size] e15 W ∧ W.heap[w.heap.size]? = some (.cells #[.int .i64 42, .string ⟨#[]⟩, .float .f64 0, .slice la ll lc, .complex .f64 (placeOf s fr).1 (placeOf s fr).2] 50 (0, 0))) ⟨(by with_reducible repeat (first | exact k0 _ _ | refine kA ?_ _ | refine kD ?_ | refine kS ?_ (by simp) | refine kM ?_ (by simp))), (by simp only [hS, hA, hD, hM, reduceIte, Option.map_some, Obj.put, Re15_R.out, Nat.ne_of_lt l_R, Nat.ne_of_gt l_R] <;> rfl)⟩ (fun w16 hW => ?_) rfl (fun w16 hW => ?_)
 ·obtain ⟨Kw16, cw16_R⟩ := hW
  have q0 := cell_of_heap cw16_R 0
  have q1 := cell_of_heap cw16_R 1
  have q2 := cell_of_heap cw16_R 2
  have q3 := cell_of_heap cw16_R 3
  have q4 := cell_of_heap cw16_R 4
  simp at q0 q1 q2 q3 q4
  simp [results, Tryz.results165, go_sem, q0, q1, q2, q3, q4]
 ·obtain ⟨Kw16, cw16_R⟩ := hW
  have Rw16_T := zh (Kw16.at Re15_T.out (by simp [n_T_R]))
  have Rw16_B := zh (Kw16.at Re15_B.out (by simp [n_B_R]))
  have HKw16 := zh (HKe15.out.trans Kw16 (by simp [o_R]))
  have HPw16 := zh (HPe15.out.keepN Kw16 (by simp [n_p_R]) (by simp [g_R]))
  have lw16 := zh (le15.out.kp Kw16 (by simp [ns_l_R]))
  have us_lw16 := Nat.le_trans us_le15 Kw16.size
  have Rw16_R := zh cw16_R
  clear Kw16 cw16_R l_p l_R xR_0 xR_1 xR_2 xR_3 xR_4 yR_0 yR_1 yR_2 yR_3 yR_4 l_T l_B xB_0 xB_1 xB_2 xB_3 xB_4 yB_0 yB_1 yB_2 yB_3 yB_4 Re15_T Re15_B HKe15 HPe15 le15 us_le15 Re15_R
  exact ⟨_, rfl, .mk (lw16.out.to dn_l), HPw16.out, HKw16.out⟩

theorem simple_expr {s : ByteArray} {p : Nat} {st : PSt} {kd : Int} {tx : ByteArray} {nm fr te : Nat} (ht : nextF s st.pos true = some ⟨kd, tx, nm, fr, te⟩) (hn_break : notF s st ⟨#[98, 114, 101, 97, 107]⟩ = some ()) (hn_continue : notF s st ⟨#[99, 111, 110, 116, 105, 110, 117, 101]⟩ = some ()) (hn_next : notF s st ⟨#[110, 101, 120, 116]⟩ = some ()) (hn_exit : notF s st ⟨#[101, 120, 105, 116]⟩ = some ()) (hn_return : notF s st ⟨#[114, 101, 116, 117, 114, 110]⟩ = some ()) (hn_delete : notF s st ⟨#[100, 101, 108, 101, 116, 101]⟩ = some ()) (hn_print : notF s st ⟨#[112, 114, 105, 110, 116]⟩ = some ()) (hn_printf : notF s st ⟨#[112, 114, 105, 110, 116, 102]⟩ = some ()) {st2 : PSt} {n : Node} (he : Hands s p st st2 n 109) : Hands s p st st2 (.mk 44 ⟨#[]⟩ 0 [n] n.re n.im) 165 := by
 intro w h
 have g_p := h.p
 have HP0 := zh h; have HK0 := zh (Keeps.refl [p] w); have HT := zh ht; have HN_break := zh (take_not hn_break); have HN_continue := zh (take_not hn_continue); have HN_next := zh (take_not hn_next); have HN_exit := zh (take_not hn_exit); have HN_return := zh (take_not hn_return); have HN_delete := zh (take_not hn_delete); have HN_print := zh (take_not hn_print); have HN_printf := zh (take_not hn_printf); have HE := zh he
 clear h ht hn_break hn_continue hn_next hn_exit hn_return hn_delete hn_print hn_printf he
 go_enter Tryz.func165, Tryz.ntmps165
 have l_p := h_lt HP0.out.row
 go_wp2_with fail
 refine calls_at (fun W => Keeps [] w W ∧ W.heap[w.heap.size]? = some (.cells #[.int .i64 0, .string ⟨#[]⟩, .float .f64 0, .slice none 0 0, .complex .f64 0 0] 50 (0, 0))) ⟨(by with_reducible repeat (first | exact k0 _ _ | refine kA ?_ _ | refine kD ?_ | refine kS ?_ (by simp) | refine kM ?_ (by simp))), (by simp only [hS, hA, hD, hM, World.size_setCell, World.size_drew, reduceIte, Option.map_some, Obj.put] <;> rfl)⟩ ?_
 rintro w1 ⟨Kw1, cw1_R⟩
 have ⟨n_p_R, n_R_p⟩ := zne l_p
 have o_R : w.heap.size ≤ w.heap.size := Nat.le_refl _
 have g_R : 14 < w.heap.size := Nat.lt_trans g_p l_p
 have HKw1 := zh (HK0.out.trans Kw1 (by simp))
 have HPw1 := zh (HP0.out.keep Kw1)
 have Rw1_R := zh cw1_R
 clear Kw1 cw1_R l_p HK0 HP0
 refine (here_any HPw1.out HT.out).mono ?_
 rintro r e2 ⟨rfl, hk⟩
 have Re2_R := zh (hk.at Rw1_R.out (by simp))
 have HKe2 := zh (HKw1.out.trans hk (by simp))
 have HPe2 := zh (HPw1.out.keep hk)
 clear hk Rw1_R HKw1 HPw1
 have l_p := h_lt HPe2.out.row
 have l_R := h_lt Re2_R.out
 go_wp2_with fail
 refine calls_at (fun W => Keeps [] e2 W ∧ W.heap[e2.heap.size]? = some (.cells #[.int .i64 kd, .string tx, .float .f64 nm, .int .i64 fr, .int .i64 te] 90 (0, 0))) ⟨(by with_reducible repeat (first | exact k0 _ _ | refine kA ?_ _ | refine kD ?_ | refine kS ?_ (by simp) | refine kM ?_ (by simp))), (by simp only [hS, hA, hD, hM, World.size_setCell, World.size_drew, reduceIte, Option.map_some, Obj.put] <;> rfl)⟩ ?_
 rintro w3 ⟨Kw3, cw3_T⟩
 have ⟨n_p_T, n_T_p⟩ := zne l_p
 have ⟨n_R_T, n_T_R⟩ := zne l_R
 have o_T : w.heap.size ≤ e2.heap.size := HKe2.out.size
 have g_T : 14 < e2.heap.size := Nat.lt_trans g_p l_p
 have Rw3_R := zh (Kw3.at Re2_R.out (by simp))
 have HKw3 := zh (HKe2.out.trans Kw3 (by simp))
 have HPw3 := zh (HPe2.out.keep Kw3)
 have Rw3_T := zh cw3_T
 clear Kw3 cw3_T l_p l_R Re2_R HKe2 HPe2
 refine (take_any HPw3.out HN_break.out).mono ?_
 rintro r e4 ⟨rfl, hp, hk⟩
 have Re4_R := zh (hk.at Rw3_R.out (by simp [n_R_p]))
 have Re4_T := zh (hk.at Rw3_T.out (by simp [n_T_p]))
 have HKe4 := zh (HKw3.out.trans hk (by simp))
 have HPne4 := zh hp
 clear hp
 clear hk Rw3_R Rw3_T HKw3 HPw3
 have l_p := h_lt HPne4.out.row
 have l_R := h_lt Re4_R.out
 have l_T := h_lt Re4_T.out
 go_wp2_with fail
 clear l_p l_R l_T
 refine (take_any HPne4.out HN_continue.out).mono ?_
 rintro r e5 ⟨rfl, hp, hk⟩
 have Re5_R := zh (hk.at Re4_R.out (by simp [n_R_p]))
 have Re5_T := zh (hk.at Re4_T.out (by simp [n_T_p]))
 have HKe5 := zh (HKe4.out.trans hk (by simp))
 have HPne5 := zh hp
 clear hp
 clear hk Re4_R Re4_T HKe4 HPne4
 have l_p := h_lt HPne5.out.row
 have l_R := h_lt Re5_R.out
 have l_T := h_lt Re5_T.out
 go_wp2_with fail
 clear l_p l_R l_T
 refine (take_any HPne5.out HN_next.out).mono ?_
 rintro r e6 ⟨rfl, hp, hk⟩
 have Re6_R := zh (hk.at Re5_R.out (by simp [n_R_p]))
 have Re6_T := zh (hk.at Re5_T.out (by simp [n_T_p]))
 have HKe6 := zh (HKe5.out.trans hk (by simp))
 have HPne6 := zh hp
 clear hp
 clear hk Re5_R Re5_T HKe5 HPne5
 have l_p := h_lt HPne6.out.row
 have l_R := h_lt Re6_R.out
 have l_T := h_lt Re6_T.out
 go_wp2_with fail
 clear l_p l_R l_T
 refine (take_any HPne6.out HN_exit.out).mono ?_
 rintro r e7 ⟨rfl, hp, hk⟩
 have Re7_R := zh (hk.at Re6_R.out (by simp [n_R_p]))
 have Re7_T := zh (hk.at Re6_T.out (by simp [n_T_p]))
 have HKe7 := zh (HKe6.out.trans hk (by simp))
 have HPne7 := zh hp
 clear hp
 clear hk Re6_R Re6_T HKe6 HPne6
 have l_p := h_lt HPne7.out.row
 have l_R := h_lt Re7_R.out
 have l_T := h_lt Re7_T.out
 go_wp2_with fail
 clear l_p l_R l_T
 refine (take_any HPne7.out HN_return.out).mono ?_
 rintro r e8 ⟨rfl, hp, hk⟩
 have Re8_R := zh (hk.at Re7_R.out (by simp [n_R_p]))
 have Re8_T := zh (hk.at Re7_T.out (by simp [n_T_p]))
 have HKe8 := zh (HKe7.out.trans hk (by simp))
 have HPne8 := zh hp
 clear hp
 clear hk Re7_R Re7_T HKe7 HPne7
 have l_p := h_lt HPne8.out.row
 have l_R := h_lt Re8_R.out
 have l_T := h_lt Re8_T.out
 go_wp2_with fail
 clear l_p l_R l_T
 refine (take_any HPne8.out HN_delete.out).mono ?_
 rintro r e9 ⟨rfl, hp, hk⟩
 have Re9_R := zh (hk.at Re8_R.out (by simp [n_R_p]))
 have Re9_T := zh (hk.at Re8_T.out (by simp [n_T_p]))
 have HKe9 := zh (HKe8.out.trans hk (by simp))
 have HPne9 := zh hp
 clear hp
 clear hk Re8_R Re8_T HKe8 HPne8
 have l_p := h_lt HPne9.out.row
 have l_R := h_lt Re9_R.out
 have l_T := h_lt Re9_T.out
 go_wp2_with fail
 clear l_p l_R l_T
 refine (take_any HPne9.out HN_print.out).mono ?_
 rintro r e10 ⟨rfl, hp, hk⟩
 have Re10_R := zh (hk.at Re9_R.out (by simp [n_R_p]))
 have Re10_T := zh (hk.at Re9_T.out (by simp [n_T_p]))
 have HKe10 := zh (HKe9.out.trans hk (by simp))
 have HPne10 := zh hp
 clear hp
 clear hk Re9_R Re9_T HKe9 HPne9
 have l_p := h_lt HPne10.out.row
 have l_R := h_lt Re10_R.out
 have l_T := h_lt Re10_T.out
 go_wp2_with fail
 clear l_p l_R l_T
 refine (take_any HPne10.out HN_printf.out).mono ?_
 rintro r e11 ⟨rfl, hp, hk⟩
 have Re11_R := zh (hk.at Re10_R.out (by simp [n_R_p]))
 have Re11_T := zh (hk.at Re10_T.out (by simp [n_T_p]))
 have HKe11 := zh (HKe10.out.trans hk (by simp))
 have HPne11 := zh hp
 clear hp
 clear hk Re10_R Re10_T HKe10 HPne10
 have l_p := h_lt HPne11.out.row
 have l_R := h_lt Re11_R.out
 have l_T := h_lt Re11_T.out
 go_wp2_with fail
 clear l_p l_R l_T
 refine (HE.out _ HPne11.out).mono ?_
 rintro r e12 ⟨v, rfl, hn, hp, hk⟩
 have Re12_R := zh (hk.at Re11_R.out (by simp [n_R_p]))
 have Re12_T := zh (hk.at Re11_T.out (by simp [n_T_p]))
 have HKe12 := zh (HKe11.out.trans hk (by simp))
 have HPne12 := zh hp
 have ne12 := zh hn.seg
 have o_n : w.heap.size ≤ e11.heap.size := HKe11.out.size
 have ns_n_p : ¬ (Seg e11.heap.size e12.heap.size) (p) := fun h => Nat.not_lt_of_le h.1 (h_lt HPne11.out.row)
 have ns_n_R : ¬ (Seg e11.heap.size e12.heap.size) (w.heap.size) := fun h => Nat.not_lt_of_le h.1 (h_lt Re11_R.out)
 have ns_n_T : ¬ (Seg e11.heap.size e12.heap.size) (e2.heap.size) := fun h => Nat.not_lt_of_le h.1 (h_lt Re11_T.out)
 have up_n : ∀ g, (Seg e11.heap.size e12.heap.size) g → g < e12.heap.size := fun _ h => h.2
 have dn_n : ∀ g, (Seg e11.heap.size e12.heap.size) g → w.heap.size ≤ g := fun _ h => Nat.le_trans o_n h.1
 obtain ⟨nt, nm, na, nl, nc, nr, ni, rfl, -, -⟩ := hn.shape
 clear hn hp
 clear hk Re11_R Re11_T HKe11 HPne11
 have l_p := h_lt HPne12.out.row
 have l_p_1 : p < e12.heap.size + 1 := Nat.lt_add_right 1 l_p
 obtain ⟨l_R, xR_0, xR_1, xR_2, xR_3, xR_4, yR_0, yR_1, yR_2, yR_3, yR_4⟩ := cf5 Re12_R.out
 have l_R_1 : w.heap.size < e12.heap.size + 1 := Nat.lt_add_right 1 l_R
 have l_T := h_lt Re12_T.out
 have l_T_1 : e2.heap.size < e12.heap.size + 1 := Nat.lt_add_right 1 l_T
 go_wp2_with fail
 refine ret_at (v := .agg #[.int .i64 44, .string ⟨#[]⟩, .float .f64 0, .slice (some ⟨e12.heap.size + 1, 0, none⟩) 1 1, .complex .f64 nr ni]) (fun W => Keeps [w.heap.size] e12 W ∧ W.heap[w.heap.size]? = some (.cells #[.int .i64 44, .string ⟨#[]⟩, .float .f64 0, .slice (some ⟨e12.heap.size + 1, 0, none⟩) 1 1, .complex .f64 nr ni] 50 (0, 0)) ∧ W.heap[e12.heap.size]? = some (.cells #[.int .i64 n.kind, .string nt, .float .f64 nm, .slice na nl nc, .complex .f64 nr ni] 50 (0, 0)) ∧ W.heap[e12.heap.size + 1]? = some (.cells #[.int .i64 n.kind, .string nt, .float .f64 nm, .slice na nl nc, .complex .f64 nr ni] 50 (0, 0))) ⟨(by with_reducible repeat (first | exact k0 _ _ | refine kA ?_ _ | refine kD ?_ | refine kS ?_ (by simp) | refine kM ?_ (by simp))), (by simp only [hS, hA, hD, hM, World.size_alloc, World.size_setCell, World.size_drew, size_mset, Nat.add_right_cancel_iff, Nat.left_eq_add, Nat.add_eq_left, Nat.reduceEqDiff, Nat.add_assoc, Nat.reduceAdd, Nat.one_ne_zero, Nat.zero_ne_one, reduceIte, Option.map_some, Obj.put, Re12_R.out, Nat.ne_of_lt l_R, Nat.ne_of_gt l_R, Nat.ne_of_lt (Nat.lt_add_right 1 l_R), Nat.ne_of_gt (Nat.lt_add_right 1 l_R)] <;> rfl), (by simp only [hS, hA, hD, hM, World.size_alloc, World.size_setCell, World.size_drew, size_mset, Nat.add_right_cancel_iff, Nat.left_eq_add, Nat.add_eq_left, Nat.reduceEqDiff, Nat.add_assoc, Nat.reduceAdd, Nat.one_ne_zero, Nat.zero_ne_one, reduceIte, Option.map_some, Obj.put, Re12_R.out, Nat.ne_of_lt l_R, Nat.ne_of_gt l_R, Nat.ne_of_lt (Nat.lt_add_right 1 l_R), Nat.ne_of_gt (Nat.lt_add_right 1 l_R)] <;> rfl), (by simp only [hS, hA, hD, hM, World.size_alloc, World.size_setCell, World.size_drew, size_mset, Nat.add_right_cancel_iff, Nat.left_eq_add, Nat.add_eq_left, Nat.reduceEqDiff, Nat.add_assoc, Nat.reduceAdd, Nat.one_ne_zero, Nat.zero_ne_one, reduceIte, Option.map_some, Obj.put, Re12_R.out, Nat.ne_of_lt l_R, Nat.ne_of_gt l_R, Nat.ne_of_lt (Nat.lt_add_right 1 l_R), Nat.ne_of_gt (Nat.lt_add_right 1 l_R)] <;> rfl)⟩ (fun w13 hW => ?_) rfl (fun w13 hW => ?_)
 ·obtain ⟨Kw13, cw13_R, cw13_B, cw13_G⟩ := hW
  have q0 := cell_of_heap cw13_R 0
  have q1 := cell_of_heap cw13_R 1
  have q2 := cell_of_heap cw13_R 2
  have q3 := cell_of_heap cw13_R 3
  have q4 := cell_of_heap cw13_R 4
  simp at q0 q1 q2 q3 q4
  simp [results, Tryz.results165, go_sem, q0, q1, q2, q3, q4]
 ·obtain ⟨Kw13, cw13_R, cw13_B, cw13_G⟩ := hW
  have ⟨n_p_B, n_B_p⟩ := zne l_p
  have ⟨n_R_B, n_B_R⟩ := zne l_R
  have ⟨n_T_B, n_B_T⟩ := zne l_T
  have o_B : w.heap.size ≤ e12.heap.size := HKe12.out.size
  have g_B : 14 < e12.heap.size := Nat.lt_trans g_p l_p
  have ns_n_B : ¬ (Seg e11.heap.size e12.heap.size) (e12.heap.size) := fun h => Nat.not_lt_of_le ((Nat.le_refl e12.heap.size)) (up_n _ h)
  have ⟨n_p_G, n_G_p⟩ := zne (Nat.lt_add_right 1 l_p)
  have ⟨n_R_G, n_G_R⟩ := zne (Nat.lt_add_right 1 l_R)
  have ⟨n_T_G, n_G_T⟩ := zne (Nat.lt_add_right 1 l_T)
  have n_B_G : e12.heap.size ≠ e12.heap.size + 1 := by simp
  have n_G_B : e12.heap.size + 1 ≠ e12.heap.size := by simp
  have o_G : w.heap.size ≤ e12.heap.size + 1 := Nat.le_trans (HKe12.out.size) (Nat.le_add_right _ 1)
  have g_G : 14 < e12.heap.size + 1 := Nat.lt_trans g_p (Nat.lt_add_right 1 l_p)
  have ns_n_G : ¬ (Seg e11.heap.size e12.heap.size) (e12.heap.size + 1) := fun h => Nat.not_lt_of_le (Nat.le_add_right_of_le (Nat.le_refl e12.heap.size)) (up_n _ h)
  have Rw13_T := zh (Kw13.at Re12_T.out (by simp [n_T_R]))
  have HKw13 := zh (HKe12.out.trans Kw13 (by simp [o_R]))
  have HPw13 := zh (HPne12.out.keepN Kw13 (by simp [n_p_R]) (by simp [g_R]))
  have nw13 := zh (ne12.out.kp Kw13 (by simp [ns_n_R]))
  have us_nw13 := Nat.le_trans (Nat.le_refl e12.heap.size) Kw13.size
  have Rw13_R := zh cw13_R
  have Rw13_B := zh cw13_B
  have Rw13_G := zh cw13_G
  clear Kw13 cw13_R cw13_B cw13_G l_p l_p_1 l_R l_R_1 xR_0 xR_1 xR_2 xR_3 xR_4 yR_0 yR_1 yR_2 yR_3 yR_4 l_T l_T_1 Re12_T HKe12 HPne12 ne12 Re12_R
  have hri := nw13.out.reim
  rw [← hri.1, ← hri.2]
  exact ⟨_, rfl, .mk (.some (S := fun g => w.heap.size ≤ g) o_G (h_lt Rw13_G.out) (row1 nw13.out dn_n Rw13_G.out)), HPw13.out, HKw13.out⟩
end Go.Proofs.YtkfillfkbhbbjaaGreatDoor
