/- post with a sign, walked. Made by a program (parse.py, walk.py). -/
import Derived.Test.YtkfillfkbhbbjaaGreatDoorLevelsB
import Derived.Laws.StructEq
import Derived.WideKeyRuns
set_option maxRecDepth 100000
set_option maxHeartbeats 4000000
set_option linter.unusedSimpArgs false
set_option linter.unusedVariables false
namespace Go.Proofs.YtkfillfkbhbbjaaGreatDoor
open Go.RowKit

theorem in_lv {s : ByteArray} {p : Nat} {st st' : PSt} {n : Node} (hsub : Hands s p st st' n 256) (hno : notF s st' ⟨#[105, 110]⟩ = some ()) : Hands s p st st' n 226 := by
 intro w h
 have hlt := h_lt h.row
 have H := zh h; have HS := zh hsub; have HN := zh hno
 clear h hsub hno
 go_enter Tryz.func226, Tryz.ntmps226
 go_wp2_with fail
 refine (HS.out _ (H.out.keep (Keeps.alloc [] w (nodC 0 ⟨#[]⟩ 0 (.slice none 0 0) 0 0)))).mono ?_
 rintro r w1 ⟨v, rfl, hn', hp1, hk1⟩
 have hn : NodeR w1 (fun g => w.heap.size < g) n v := hn'.keep (Keeps.refl [] w1) (by simp) (fun x hx => by have h2 := hx; simp at h2; omega)
 clear hn'
 have hq1 := hk1.at (h_new w (nodC 0 ⟨#[]⟩ 0 (.slice none 0 0) 0 0)) (by simp; omega)
 have hkw : Keeps [p] w w1 := (Keeps.alloc [p] w _).trans hk1 (fun _ h => .inl h)
 have hsz : w.heap.size < w1.heap.size := by have := hk1.size; simp at this; omega
 have h14 := hp1.p
 obtain ⟨tx, nm, a, l, cap, re, im, rfl, -, -⟩ := hn.shape
 generalize hkd : n.kind = kd at *
 have hka := Keeps.alloc [] w1 (nodC kd tx nm (.slice a l cap) re im)
 have HN1 := zh (hn.keep0 hka); have HP1 := zh (hp1.keep hka); have HK1 := zh (hkw.trans hka (by simp))
 have HQ1 := zh (hka.at hq1 (by simp)); have HB1 := zh (h_new w1 (nodC kd tx nm (.slice a l cap) re im))
 clear hn hp1 hkw hk1 hq1 hka
 go_wp2_with fail
 refine wp_loop_rounds 1 ?_
 rw [rounds_succ]
 go_wp2_with fail
 generalize w1.alloc (nodC kd tx nm (.slice a l cap) re im) = w2 at *
 refine (is_not HP1.out HN.out).mono ?_
 rintro r w3 ⟨rfl, hk3⟩
 have hb3 := hk3.at HB1.out (by simp)
 have hq3 := hk3.at HQ1.out (by simp)
 have HN3 := zh (HN1.out.keep0 hk3); have HP3 := zh (HP1.out.keep hk3); have HK3 := zh (HK1.out.trans hk3 (by simp))
 have hl3 : w.heap.size < w3.heap.size := h_lt hq3
 have hl4 : w1.heap.size < w3.heap.size := h_lt hb3
 have x0 := cell_of_heap hb3 0
 have x1 := cell_of_heap hb3 1
 have x2 := cell_of_heap hb3 2
 have x3 := cell_of_heap hb3 3
 have x4 := cell_of_heap hb3 4
 have q0 := cell_of_heap hq3 0
 have q1 := cell_of_heap hq3 1
 have q2 := cell_of_heap hq3 2
 have q3 := cell_of_heap hq3 3
 have q4 := cell_of_heap hq3 4
 have qf0 := frozen_of_heap hq3 0
 have qf1 := frozen_of_heap hq3 1
 have qf2 := frozen_of_heap hq3 2
 have qf3 := frozen_of_heap hq3 3
 have qf4 := frozen_of_heap hq3 4
 simp at x0 x1 x2 x3 x4 q0 q1 q2 q3 q4
 have n5 : w.heap.size ≠ w1.heap.size := Nat.ne_of_lt hsz
 have n6 : w1.heap.size ≠ w.heap.size := Nat.ne_of_gt hsz
 clear hk3 hb3 hq3
 go_wp2_with fail
 have t5 := nod5 w3 w.heap.size kd tx nm (.slice a l cap) re im
 refine bodyPost_ret (v := .agg #[.int .i64 kd, .string tx, .float .f64 nm, .slice a l cap, .complex .f64 re im]) (by simp [results, Tryz.results226, go_sem, q0, q1, q2, q3, q4]) rfl ⟨_, rfl, ?_, ?_, ?_⟩
 ·exact HN3.out.keep t5 (by simp) (fun x hx => Nat.le_of_lt hx)
 ·exact HP3.out.keepN t5 (by simp; omega) (by simp; omega)
 ·exact HK3.out.trans t5 (by simp)

theorem compare_true_lv {s : ByteArray} {p : Nat} {st st' : PSt} {n : Node} (hsub : Hands s p st st' n 270) (hno : noneF s st' ⟨#[60, 32, 60, 61, 32, 61, 61, 32, 33, 61, 32, 62, 61]⟩ = some ()) (hng : st'.ng = true) : Hands s p st st' n 266 := by
 intro w h
 have hlt := h_lt h.row
 have H := zh h; have HS := zh hsub; have HN := zh hno
 clear h hsub hno
 go_enter Tryz.func266, Tryz.ntmps266
 go_wp2_with fail
 refine (HS.out _ (H.out.keep (Keeps.alloc [] w (nodC 0 ⟨#[]⟩ 0 (.slice none 0 0) 0 0)))).mono ?_
 rintro r w1 ⟨v, rfl, hn', hp1, hk1⟩
 have hn : NodeR w1 (fun g => w.heap.size < g) n v := hn'.keep (Keeps.refl [] w1) (by simp) (fun x hx => by have h2 := hx; simp at h2; omega)
 clear hn'
 have hq1 := hk1.at (h_new w (nodC 0 ⟨#[]⟩ 0 (.slice none 0 0) 0 0)) (by simp; omega)
 have hkw : Keeps [p] w w1 := (Keeps.alloc [p] w _).trans hk1 (fun _ h => .inl h)
 have hsz : w.heap.size < w1.heap.size := by have := hk1.size; simp at this; omega
 have h14 := hp1.p
 obtain ⟨tx, nm, a, l, cap, re, im, rfl, -, -⟩ := hn.shape
 generalize hkd : n.kind = kd at *
 have hka := Keeps.alloc [] w1 (nodC kd tx nm (.slice a l cap) re im)
 have HN1 := zh (hn.keep0 hka); have HP1 := zh (hp1.keep hka); have HK1 := zh (hkw.trans hka (by simp))
 have HQ1 := zh (hka.at hq1 (by simp)); have HB1 := zh (h_new w1 (nodC kd tx nm (.slice a l cap) re im))
 clear hn hp1 hkw hk1 hq1 hka
 have hlp : p < w1.heap.size := by omega
 generalize hw2 : w1.alloc (nodC kd tx nm (.slice a l cap) re im) = w2 at *
 have c3 := cell_of_heap HP1.out.row 3
 simp [hng] at c3
 go_wp2_with fail
 refine (one_none HP1.out HN.out (by decide)).mono ?_
 rintro r w3 ⟨rfl, hk3⟩
 have hb3 := hk3.at HB1.out (by simp)
 have hq3 := hk3.at HQ1.out (by simp)
 have HN3 := zh (HN1.out.keep0 hk3); have HP3 := zh (HP1.out.keep hk3); have HK3 := zh (HK1.out.trans hk3 (by simp))
 have hl3 : w.heap.size < w3.heap.size := h_lt hq3
 have hl4 : w1.heap.size < w3.heap.size := h_lt hb3
 have x0 := cell_of_heap hb3 0
 have x1 := cell_of_heap hb3 1
 have x2 := cell_of_heap hb3 2
 have x3 := cell_of_heap hb3 3
 have x4 := cell_of_heap hb3 4
 have q0 := cell_of_heap hq3 0
 have q1 := cell_of_heap hq3 1
 have q2 := cell_of_heap hq3 2
 have q3 := cell_of_heap hq3 3
 have q4 := cell_of_heap hq3 4
 have qf0 := frozen_of_heap hq3 0
 have qf1 := frozen_of_heap hq3 1
 have qf2 := frozen_of_heap hq3 2
 have qf3 := frozen_of_heap hq3 3
 have qf4 := frozen_of_heap hq3 4
 simp at x0 x1 x2 x3 x4 q0 q1 q2 q3 q4
 have n5 : w.heap.size ≠ w1.heap.size := Nat.ne_of_lt hsz
 have n6 : w1.heap.size ≠ w.heap.size := Nat.ne_of_gt hsz
 clear hk3 hb3 hq3
 go_wp2_with fail
 have t5 := nod5 w3 w.heap.size kd tx nm (.slice a l cap) re im
 refine bodyPost_ret (v := .agg #[.int .i64 kd, .string tx, .float .f64 nm, .slice a l cap, .complex .f64 re im]) (by simp [results, Tryz.results266, go_sem, q0, q1, q2, q3, q4]) rfl ⟨_, rfl, ?_, ?_, ?_⟩
 ·exact HN3.out.keep t5 (by simp) (fun x hx => Nat.le_of_lt hx)
 ·exact HP3.out.keepN t5 (by simp; omega) (by simp; omega)
 ·exact HK3.out.trans t5 (by simp)

theorem compare_false_lv {s : ByteArray} {p : Nat} {st st' : PSt} {n : Node} (hsub : Hands s p st st' n 270) (hno : noneF s st' ⟨#[60, 32, 60, 61, 32, 61, 61, 32, 33, 61, 32, 62, 61, 32, 62]⟩ = some ()) (hng : st'.ng = false) : Hands s p st st' n 266 := by
 intro w h
 have hlt := h_lt h.row
 have H := zh h; have HS := zh hsub; have HN := zh hno
 clear h hsub hno
 go_enter Tryz.func266, Tryz.ntmps266
 go_wp2_with fail
 refine (HS.out _ (H.out.keep (Keeps.alloc [] w (nodC 0 ⟨#[]⟩ 0 (.slice none 0 0) 0 0)))).mono ?_
 rintro r w1 ⟨v, rfl, hn', hp1, hk1⟩
 have hn : NodeR w1 (fun g => w.heap.size < g) n v := hn'.keep (Keeps.refl [] w1) (by simp) (fun x hx => by have h2 := hx; simp at h2; omega)
 clear hn'
 have hq1 := hk1.at (h_new w (nodC 0 ⟨#[]⟩ 0 (.slice none 0 0) 0 0)) (by simp; omega)
 have hkw : Keeps [p] w w1 := (Keeps.alloc [p] w _).trans hk1 (fun _ h => .inl h)
 have hsz : w.heap.size < w1.heap.size := by have := hk1.size; simp at this; omega
 have h14 := hp1.p
 obtain ⟨tx, nm, a, l, cap, re, im, rfl, -, -⟩ := hn.shape
 generalize hkd : n.kind = kd at *
 have hka := Keeps.alloc [] w1 (nodC kd tx nm (.slice a l cap) re im)
 have HN1 := zh (hn.keep0 hka); have HP1 := zh (hp1.keep hka); have HK1 := zh (hkw.trans hka (by simp))
 have HQ1 := zh (hka.at hq1 (by simp)); have HB1 := zh (h_new w1 (nodC kd tx nm (.slice a l cap) re im))
 clear hn hp1 hkw hk1 hq1 hka
 have hlp : p < w1.heap.size := by omega
 generalize hw2 : w1.alloc (nodC kd tx nm (.slice a l cap) re im) = w2 at *
 have c3 := cell_of_heap HP1.out.row 3
 simp [hng] at c3
 go_wp2_with fail
 refine (one_none HP1.out HN.out (by decide)).mono ?_
 rintro r w3 ⟨rfl, hk3⟩
 have hb3 := hk3.at HB1.out (by simp)
 have hq3 := hk3.at HQ1.out (by simp)
 have HN3 := zh (HN1.out.keep0 hk3); have HP3 := zh (HP1.out.keep hk3); have HK3 := zh (HK1.out.trans hk3 (by simp))
 have hl3 : w.heap.size < w3.heap.size := h_lt hq3
 have hl4 : w1.heap.size < w3.heap.size := h_lt hb3
 have x0 := cell_of_heap hb3 0
 have x1 := cell_of_heap hb3 1
 have x2 := cell_of_heap hb3 2
 have x3 := cell_of_heap hb3 3
 have x4 := cell_of_heap hb3 4
 have q0 := cell_of_heap hq3 0
 have q1 := cell_of_heap hq3 1
 have q2 := cell_of_heap hq3 2
 have q3 := cell_of_heap hq3 3
 have q4 := cell_of_heap hq3 4
 have qf0 := frozen_of_heap hq3 0
 have qf1 := frozen_of_heap hq3 1
 have qf2 := frozen_of_heap hq3 2
 have qf3 := frozen_of_heap hq3 3
 have qf4 := frozen_of_heap hq3 4
 simp at x0 x1 x2 x3 x4 q0 q1 q2 q3 q4
 have n5 : w.heap.size ≠ w1.heap.size := Nat.ne_of_lt hsz
 have n6 : w1.heap.size ≠ w.heap.size := Nat.ne_of_gt hsz
 clear hk3 hb3 hq3
 go_wp2_with fail
 have t5 := nod5 w3 w.heap.size kd tx nm (.slice a l cap) re im
 refine bodyPost_ret (v := .agg #[.int .i64 kd, .string tx, .float .f64 nm, .slice a l cap, .complex .f64 re im]) (by simp [results, Tryz.results266, go_sem, q0, q1, q2, q3, q4]) rfl ⟨_, rfl, ?_, ?_, ?_⟩
 ·exact HN3.out.keep t5 (by simp) (fun x hx => Nat.le_of_lt hx)
 ·exact HP3.out.keepN t5 (by simp; omega) (by simp; omega)
 ·exact HK3.out.trans t5 (by simp)
end Go.Proofs.YtkfillfkbhbbjaaGreatDoor
namespace Go.Proofs.YtkfillfkbhbbjaaGreatDoor
open Go.RowKit

theorem post_no {s : ByteArray} {p : Nat} {st st' : PSt} {n : Node} (hsub : Hands s p st st' n 292) (hl : lval n = false) : Hands s p st st' n 290 := by
 intro w h
 have hlt := h_lt h.row
 have H := zh h; have HS := zh hsub; have HL := zh hl
 clear h hsub hl
 go_enter Tryz.func290, Tryz.ntmps290
 go_wp2_with fail
 refine (HS.out _ (H.out.keep (Keeps.alloc [] w (nodC 0 ⟨#[]⟩ 0 (.slice none 0 0) 0 0)))).mono ?_
 rintro r w1 ⟨v, rfl, hn', hp1, hk1⟩
 have hn : NodeR w1 (fun g => w.heap.size < g) n v := hn'.keep (Keeps.refl [] w1) (by simp) (fun x hx => by have h2 := hx; simp at h2; omega)
 clear hn'
 have hq1 := hk1.at (h_new w (nodC 0 ⟨#[]⟩ 0 (.slice none 0 0) 0 0)) (by simp; omega)
 have hkw : Keeps [p] w w1 := (Keeps.alloc [p] w _).trans hk1 (fun _ h => .inl h)
 have hsz : w.heap.size < w1.heap.size := by have := hk1.size; simp at this; omega
 have h14 := hp1.p
 obtain ⟨tx, nm, a, l, cap, re, im, rfl, -, -⟩ := hn.shape
 generalize hkd : n.kind = kd at *
 have hka := Keeps.alloc [] w1 (nodC kd tx nm (.slice a l cap) re im)
 have HN1 := zh (hn.keep0 hka); have HP1 := zh (hp1.keep hka); have HK1 := zh (hkw.trans hka (by simp))
 have HQ1 := zh (hka.at hq1 (by simp)); have HB1 := zh (h_new w1 (nodC kd tx nm (.slice a l cap) re im))
 clear hn hp1 hkw hk1 hq1 hka
 go_wp2_with fail
 generalize w1.alloc (nodC kd tx nm (.slice a l cap) re im) = w2 at *
 have hb2 : w1.heap.size < w2.heap.size := h_lt HB1.out
 have y0 := cell_of_heap HB1.out 0
 have y1 := cell_of_heap HB1.out 1
 have y2 := cell_of_heap HB1.out 2
 have y3 := cell_of_heap HB1.out 3
 have y4 := cell_of_heap HB1.out 4
 simp at y0 y1 y2 y3 y4

 refine (ok_any HP1.out).mono ?_
 rintro r w' ⟨rfl, hw'⟩
 rw [hw']
 clear hw'
 go_wp2_with fail
 refine (lvalue_any HN1.out).mono ?_
 rintro r w4 ⟨rfl, hk4⟩
 rw [HL.out]
 have HN4 := zh (HN1.out.keep0 hk4); have HP4 := zh (HP1.out.keep hk4); have HK4 := zh (HK1.out.trans hk4 (by simp))
 have HQ4 := zh (hk4.at HQ1.out (by simp)); have HB4 := zh (hk4.at HB1.out (by simp))
 clear hk4 y0 y1 y2 y3 y4
 have hq3 := HQ4.out
 have hb3 := HB4.out
 have hl3 : w.heap.size < w4.heap.size := h_lt hq3
 have hl4 : w1.heap.size < w4.heap.size := h_lt hb3
 have x0 := cell_of_heap hb3 0
 have x1 := cell_of_heap hb3 1
 have x2 := cell_of_heap hb3 2
 have x3 := cell_of_heap hb3 3
 have x4 := cell_of_heap hb3 4
 simp at x0 x1 x2 x3 x4
 have q0 := cell_of_heap hq3 0
 have qf0 := frozen_of_heap hq3 0
 have q1 := cell_of_heap hq3 1
 have qf1 := frozen_of_heap hq3 1
 have q2 := cell_of_heap hq3 2
 have qf2 := frozen_of_heap hq3 2
 have q3 := cell_of_heap hq3 3
 have qf3 := frozen_of_heap hq3 3
 have q4 := cell_of_heap hq3 4
 have qf4 := frozen_of_heap hq3 4
 simp at q0 q1 q2 q3 q4
 have n5 : w.heap.size ≠ w1.heap.size := Nat.ne_of_lt hsz
 have n6 : w1.heap.size ≠ w.heap.size := Nat.ne_of_gt hsz
 clear hb3 hq3
 go_wp2_with fail
 have t5 := nod5 w4 w.heap.size kd tx nm (.slice a l cap) re im
 refine bodyPost_ret (v := .agg #[.int .i64 kd, .string tx, .float .f64 nm, .slice a l cap, .complex .f64 re im]) (by simp [results, Tryz.results290, go_sem, q0, q1, q2, q3, q4]) rfl ⟨_, rfl, ?_, ?_, ?_⟩
 ·exact HN4.out.keep t5 (by simp) (fun x hx => Nat.le_of_lt hx)
 ·exact HP4.out.keepN t5 (by simp; omega) (by simp; omega)
 ·exact HK4.out.trans t5 (by simp)

theorem post_none {s : ByteArray} {p : Nat} {st st' : PSt} {n : Node} (hsub : Hands s p st st' n 292) (hl : lval n = true) (ho : noneF s st' ⟨#[43, 43, 32, 45, 45]⟩ = some ()) : Hands s p st st' n 290 := by
 intro w h
 have hlt := h_lt h.row
 have H := zh h; have HS := zh hsub; have HL := zh hl
 have HO := zh ho
 clear h hsub hl ho
 go_enter Tryz.func290, Tryz.ntmps290
 go_wp2_with fail
 refine (HS.out _ (H.out.keep (Keeps.alloc [] w (nodC 0 ⟨#[]⟩ 0 (.slice none 0 0) 0 0)))).mono ?_
 rintro r w1 ⟨v, rfl, hn', hp1, hk1⟩
 have hn : NodeR w1 (fun g => w.heap.size < g) n v := hn'.keep (Keeps.refl [] w1) (by simp) (fun x hx => by have h2 := hx; simp at h2; omega)
 clear hn'
 have hq1 := hk1.at (h_new w (nodC 0 ⟨#[]⟩ 0 (.slice none 0 0) 0 0)) (by simp; omega)
 have hkw : Keeps [p] w w1 := (Keeps.alloc [p] w _).trans hk1 (fun _ h => .inl h)
 have hsz : w.heap.size < w1.heap.size := by have := hk1.size; simp at this; omega
 have h14 := hp1.p
 obtain ⟨tx, nm, a, l, cap, re, im, rfl, -, -⟩ := hn.shape
 generalize hkd : n.kind = kd at *
 have hka := Keeps.alloc [] w1 (nodC kd tx nm (.slice a l cap) re im)
 have HN1 := zh (hn.keep0 hka); have HP1 := zh (hp1.keep hka); have HK1 := zh (hkw.trans hka (by simp))
 have HQ1 := zh (hka.at hq1 (by simp)); have HB1 := zh (h_new w1 (nodC kd tx nm (.slice a l cap) re im))
 clear hn hp1 hkw hk1 hq1 hka
 go_wp2_with fail
 generalize w1.alloc (nodC kd tx nm (.slice a l cap) re im) = w2 at *
 have hb2 : w1.heap.size < w2.heap.size := h_lt HB1.out
 have y0 := cell_of_heap HB1.out 0
 have y1 := cell_of_heap HB1.out 1
 have y2 := cell_of_heap HB1.out 2
 have y3 := cell_of_heap HB1.out 3
 have y4 := cell_of_heap HB1.out 4
 simp at y0 y1 y2 y3 y4

 refine (ok_any HP1.out).mono ?_
 rintro r w' ⟨rfl, hw'⟩
 rw [hw']
 clear hw'
 go_wp2_with fail
 refine (lvalue_any HN1.out).mono ?_
 rintro r w4 ⟨rfl, hk4⟩
 rw [HL.out]
 have HN4 := zh (HN1.out.keep0 hk4); have HP4 := zh (HP1.out.keep hk4); have HK4 := zh (HK1.out.trans hk4 (by simp))
 have HQ4 := zh (hk4.at HQ1.out (by simp)); have HB4 := zh (hk4.at HB1.out (by simp))
 clear hk4 y0 y1 y2 y3 y4
 go_wp2_with fail
 refine (one_none HP4.out HO.out (by decide)).mono ?_
 rintro r w5 ⟨rfl, hk5⟩
 have HN5 := zh (HN4.out.keep0 hk5); have HP5 := zh (HP4.out.keep hk5); have HK5 := zh (HK4.out.trans hk5 (by simp))
 have HQ5 := zh (hk5.at HQ4.out (by simp)); have HB5 := zh (hk5.at HB4.out (by simp))
 clear hk5

 have hq3 := HQ5.out
 have hb3 := HB5.out
 have hl3 : w.heap.size < w5.heap.size := h_lt hq3
 have hl4 : w1.heap.size < w5.heap.size := h_lt hb3
 have x0 := cell_of_heap hb3 0
 have x1 := cell_of_heap hb3 1
 have x2 := cell_of_heap hb3 2
 have x3 := cell_of_heap hb3 3
 have x4 := cell_of_heap hb3 4
 simp at x0 x1 x2 x3 x4
 have q0 := cell_of_heap hq3 0
 have qf0 := frozen_of_heap hq3 0
 have q1 := cell_of_heap hq3 1
 have qf1 := frozen_of_heap hq3 1
 have q2 := cell_of_heap hq3 2
 have qf2 := frozen_of_heap hq3 2
 have q3 := cell_of_heap hq3 3
 have qf3 := frozen_of_heap hq3 3
 have q4 := cell_of_heap hq3 4
 have qf4 := frozen_of_heap hq3 4
 simp at q0 q1 q2 q3 q4
 have n5 : w.heap.size ≠ w1.heap.size := Nat.ne_of_lt hsz
 have n6 : w1.heap.size ≠ w.heap.size := Nat.ne_of_gt hsz
 clear hb3 hq3
 go_wp2_with fail
 have t5 := nod5 w5 w.heap.size kd tx nm (.slice a l cap) re im
 refine bodyPost_ret (v := .agg #[.int .i64 kd, .string tx, .float .f64 nm, .slice a l cap, .complex .f64 re im]) (by simp [results, Tryz.results290, go_sem, q0, q1, q2, q3, q4]) rfl ⟨_, rfl, ?_, ?_, ?_⟩
 ·exact HN5.out.keep t5 (by simp) (fun x hx => Nat.le_of_lt hx)
 ·exact HP5.out.keepN t5 (by simp; omega) (by simp; omega)
 ·exact HK5.out.trans t5 (by simp)

theorem expr_no {s : ByteArray} {p : Nat} {st st' : PSt} {n : Node} (hsub : Hands s p st st' n 130) (hl : lval n = false) : Hands s p st st' n 109 := by
 intro w h
 have hlt := h_lt h.row
 have H := zh h; have HS := zh hsub; have HL := zh hl
 clear h hsub hl
 go_enter Tryz.func109, Tryz.ntmps109
 go_wp2_with fail
 refine (HS.out _ (H.out.keep (Keeps.alloc [] w (nodC 0 ⟨#[]⟩ 0 (.slice none 0 0) 0 0)))).mono ?_
 rintro r w1 ⟨v, rfl, hn', hp1, hk1⟩
 have hn : NodeR w1 (fun g => w.heap.size < g) n v := hn'.keep (Keeps.refl [] w1) (by simp) (fun x hx => by have h2 := hx; simp at h2; omega)
 clear hn'
 have hq1 := hk1.at (h_new w (nodC 0 ⟨#[]⟩ 0 (.slice none 0 0) 0 0)) (by simp; omega)
 have hkw : Keeps [p] w w1 := (Keeps.alloc [p] w _).trans hk1 (fun _ h => .inl h)
 have hsz : w.heap.size < w1.heap.size := by have := hk1.size; simp at this; omega
 have h14 := hp1.p
 obtain ⟨tx, nm, a, l, cap, re, im, rfl, -, -⟩ := hn.shape
 generalize hkd : n.kind = kd at *
 have hka := Keeps.alloc [] w1 (nodC kd tx nm (.slice a l cap) re im)
 have HN1 := zh (hn.keep0 hka); have HP1 := zh (hp1.keep hka); have HK1 := zh (hkw.trans hka (by simp))
 have HQ1 := zh (hka.at hq1 (by simp)); have HB1 := zh (h_new w1 (nodC kd tx nm (.slice a l cap) re im))
 clear hn hp1 hkw hk1 hq1 hka
 go_wp2_with fail
 generalize w1.alloc (nodC kd tx nm (.slice a l cap) re im) = w2 at *
 have hb2 : w1.heap.size < w2.heap.size := h_lt HB1.out
 have y0 := cell_of_heap HB1.out 0
 have y1 := cell_of_heap HB1.out 1
 have y2 := cell_of_heap HB1.out 2
 have y3 := cell_of_heap HB1.out 3
 have y4 := cell_of_heap HB1.out 4
 simp at y0 y1 y2 y3 y4

 refine (ok_any HP1.out).mono ?_
 rintro r w' ⟨rfl, hw'⟩
 rw [hw']
 clear hw'
 go_wp2_with fail
 refine (lvalue_any HN1.out).mono ?_
 rintro r w4 ⟨rfl, hk4⟩
 rw [HL.out]
 have HN4 := zh (HN1.out.keep0 hk4); have HP4 := zh (HP1.out.keep hk4); have HK4 := zh (HK1.out.trans hk4 (by simp))
 have HQ4 := zh (hk4.at HQ1.out (by simp)); have HB4 := zh (hk4.at HB1.out (by simp))
 clear hk4 y0 y1 y2 y3 y4
 have hq3 := HQ4.out
 have hb3 := HB4.out
 have hl3 : w.heap.size < w4.heap.size := h_lt hq3
 have hl4 : w1.heap.size < w4.heap.size := h_lt hb3
 have x0 := cell_of_heap hb3 0
 have x1 := cell_of_heap hb3 1
 have x2 := cell_of_heap hb3 2
 have x3 := cell_of_heap hb3 3
 have x4 := cell_of_heap hb3 4
 simp at x0 x1 x2 x3 x4
 have q0 := cell_of_heap hq3 0
 have qf0 := frozen_of_heap hq3 0
 have q1 := cell_of_heap hq3 1
 have qf1 := frozen_of_heap hq3 1
 have q2 := cell_of_heap hq3 2
 have qf2 := frozen_of_heap hq3 2
 have q3 := cell_of_heap hq3 3
 have qf3 := frozen_of_heap hq3 3
 have q4 := cell_of_heap hq3 4
 have qf4 := frozen_of_heap hq3 4
 simp at q0 q1 q2 q3 q4
 have n5 : w.heap.size ≠ w1.heap.size := Nat.ne_of_lt hsz
 have n6 : w1.heap.size ≠ w.heap.size := Nat.ne_of_gt hsz
 clear hb3 hq3
 go_wp2_with fail
 have t5 := nod5 w4 w.heap.size kd tx nm (.slice a l cap) re im
 refine bodyPost_ret (v := .agg #[.int .i64 kd, .string tx, .float .f64 nm, .slice a l cap, .complex .f64 re im]) (by simp [results, Tryz.results109, go_sem, q0, q1, q2, q3, q4]) rfl ⟨_, rfl, ?_, ?_, ?_⟩
 ·exact HN4.out.keep t5 (by simp) (fun x hx => Nat.le_of_lt hx)
 ·exact HP4.out.keepN t5 (by simp; omega) (by simp; omega)
 ·exact HK4.out.trans t5 (by simp)

theorem expr_none {s : ByteArray} {p : Nat} {st st' : PSt} {n : Node} (hsub : Hands s p st st' n 130) (hl : lval n = true) (ho : noneF s st' ⟨#[61, 32, 43, 61, 32, 45, 61, 32, 42, 61, 32, 47, 61, 32, 37, 61, 32, 94, 61]⟩ = some ()) : Hands s p st st' n 109 := by
 intro w h
 have hlt := h_lt h.row
 have H := zh h; have HS := zh hsub; have HL := zh hl
 have HO := zh ho
 clear h hsub hl ho
 go_enter Tryz.func109, Tryz.ntmps109
 go_wp2_with fail
 refine (HS.out _ (H.out.keep (Keeps.alloc [] w (nodC 0 ⟨#[]⟩ 0 (.slice none 0 0) 0 0)))).mono ?_
 rintro r w1 ⟨v, rfl, hn', hp1, hk1⟩
 have hn : NodeR w1 (fun g => w.heap.size < g) n v := hn'.keep (Keeps.refl [] w1) (by simp) (fun x hx => by have h2 := hx; simp at h2; omega)
 clear hn'
 have hq1 := hk1.at (h_new w (nodC 0 ⟨#[]⟩ 0 (.slice none 0 0) 0 0)) (by simp; omega)
 have hkw : Keeps [p] w w1 := (Keeps.alloc [p] w _).trans hk1 (fun _ h => .inl h)
 have hsz : w.heap.size < w1.heap.size := by have := hk1.size; simp at this; omega
 have h14 := hp1.p
 obtain ⟨tx, nm, a, l, cap, re, im, rfl, -, -⟩ := hn.shape
 generalize hkd : n.kind = kd at *
 have hka := Keeps.alloc [] w1 (nodC kd tx nm (.slice a l cap) re im)
 have HN1 := zh (hn.keep0 hka); have HP1 := zh (hp1.keep hka); have HK1 := zh (hkw.trans hka (by simp))
 have HQ1 := zh (hka.at hq1 (by simp)); have HB1 := zh (h_new w1 (nodC kd tx nm (.slice a l cap) re im))
 clear hn hp1 hkw hk1 hq1 hka
 go_wp2_with fail
 generalize w1.alloc (nodC kd tx nm (.slice a l cap) re im) = w2 at *
 have hb2 : w1.heap.size < w2.heap.size := h_lt HB1.out
 have y0 := cell_of_heap HB1.out 0
 have y1 := cell_of_heap HB1.out 1
 have y2 := cell_of_heap HB1.out 2
 have y3 := cell_of_heap HB1.out 3
 have y4 := cell_of_heap HB1.out 4
 simp at y0 y1 y2 y3 y4

 refine (ok_any HP1.out).mono ?_
 rintro r w' ⟨rfl, hw'⟩
 rw [hw']
 clear hw'
 go_wp2_with fail
 refine (lvalue_any HN1.out).mono ?_
 rintro r w4 ⟨rfl, hk4⟩
 rw [HL.out]
 have HN4 := zh (HN1.out.keep0 hk4); have HP4 := zh (HP1.out.keep hk4); have HK4 := zh (HK1.out.trans hk4 (by simp))
 have HQ4 := zh (hk4.at HQ1.out (by simp)); have HB4 := zh (hk4.at HB1.out (by simp))
 clear hk4 y0 y1 y2 y3 y4
 go_wp2_with fail
 refine (one_none HP4.out HO.out (by decide)).mono ?_
 rintro r w5 ⟨rfl, hk5⟩
 have HN5 := zh (HN4.out.keep0 hk5); have HP5 := zh (HP4.out.keep hk5); have HK5 := zh (HK4.out.trans hk5 (by simp))
 have HQ5 := zh (hk5.at HQ4.out (by simp)); have HB5 := zh (hk5.at HB4.out (by simp))
 clear hk5

 have hq3 := HQ5.out
 have hb3 := HB5.out
 have hl3 : w.heap.size < w5.heap.size := h_lt hq3
 have hl4 : w1.heap.size < w5.heap.size := h_lt hb3
 have x0 := cell_of_heap hb3 0
 have x1 := cell_of_heap hb3 1
 have x2 := cell_of_heap hb3 2
 have x3 := cell_of_heap hb3 3
 have x4 := cell_of_heap hb3 4
 simp at x0 x1 x2 x3 x4
 have q0 := cell_of_heap hq3 0
 have qf0 := frozen_of_heap hq3 0
 have q1 := cell_of_heap hq3 1
 have qf1 := frozen_of_heap hq3 1
 have q2 := cell_of_heap hq3 2
 have qf2 := frozen_of_heap hq3 2
 have q3 := cell_of_heap hq3 3
 have qf3 := frozen_of_heap hq3 3
 have q4 := cell_of_heap hq3 4
 have qf4 := frozen_of_heap hq3 4
 simp at q0 q1 q2 q3 q4
 have n5 : w.heap.size ≠ w1.heap.size := Nat.ne_of_lt hsz
 have n6 : w1.heap.size ≠ w.heap.size := Nat.ne_of_gt hsz
 clear hb3 hq3
 go_wp2_with fail
 have t5 := nod5 w5 w.heap.size kd tx nm (.slice a l cap) re im
 refine bodyPost_ret (v := .agg #[.int .i64 kd, .string tx, .float .f64 nm, .slice a l cap, .complex .f64 re im]) (by simp [results, Tryz.results109, go_sem, q0, q1, q2, q3, q4]) rfl ⟨_, rfl, ?_, ?_, ?_⟩
 ·exact HN5.out.keep t5 (by simp) (fun x hx => Nat.le_of_lt hx)
 ·exact HP5.out.keepN t5 (by simp; omega) (by simp; omega)
 ·exact HK5.out.trans t5 (by simp)
end Go.Proofs.YtkfillfkbhbbjaaGreatDoor
namespace Go.Proofs.YtkfillfkbhbbjaaGreatDoor
open Go.RowKit

/-- The world at a call, put for a variable of which these things are known. -/
theorem calls_at {P : Program} {f : FuncId} {args : Array Value} {Q : Ending → World → Prop} {W : World} (F : World → Prop) (hF : F W) (h : ∀ W', F W' → Calls P f args W' Q) : Calls P f args W Q := h W hF
/-- The world at a return. -/
theorem ret_at {P : Program} {fn : Func} {R : Ending → World → Prop} {a : Act} {W : World} {v : Value} (F : World → Prop) (hF : F W) (hr : ∀ W', F W' → (results fn a.tmps).run P W' = .ok v W') (hd : a.defers = [])
  (hR : ∀ W', F W' → R (.returned v) W') : bodyPost P fn R .ret a W := ⟨hd, v, hr W hF, hR W hF⟩
theorem wp_at {P : Program} {c : Code} {Q : Exit → Act → World → Prop} {a : Act} {W : World} (F : World → Prop) (hF : F W) (h : ∀ W', F W' → c.wp P Q a W') : c.wp P Q a W := h W hF
theorem list_at {P : Program} {ops l : List Oper} {Q : Exit → Act → World → Prop} {a : Act} {W : World} (F : World → Prop) (hF : F W) (h : ∀ W', F W' → wpList P ops.toArray Q l a W') : wpList P ops.toArray Q l a W := h W hF
theorem inv_at {G : World → Prop} {W : World} (F : World → Prop) (hF : F W) (h : ∀ W', F W' → G W') : G W := h W hF
theorem end_at {P : Program} {fn : Func} {R : Ending → World → Prop} {a : Act} {W : World} {v : Value} (F : World → Prop) (hF : F W) (hr : ∀ W', F W' → (results fn a.tmps).run P W' = .ok v W') (hd : a.defers = [])
  (hR : ∀ W', F W' → R (.returned v) W') : bodyPost P fn R .normal a W := ⟨hd, v, hr W hF, hR W hF⟩

theorem keep_alloc {fp : List Nat} {w W : World} (h : Keeps fp w W) (o : Obj) : Keeps fp w (W.alloc o) := h.trans (fp' := []) (Keeps.alloc [] W o) (by simp)
theorem keep_set {fp : List Nat} {w W : World} (h : Keeps fp w W) {b i : Nat} {u : Value} (hb : b ∈ fp ∨ w.heap.size ≤ b) : Keeps fp w (W.setCell ⟨b, i, none⟩ u) :=
 h.trans (fp' := [b]) (Keeps.setCell _ _ _ _ (by simp)) (by simpa using hb)
theorem keep_drew {fp : List Nat} {w W : World} (h : Keeps fp w W) : Keeps fp w W.drew := h.trans (fp' := []) (Keeps.drew [] W) (by simp)

/-! ### what a block holds, as an equation -/
def Obj.put : Obj → Nat → Value → Obj
 | .cells c T f, i, u => .cells (c.setIfInBounds i u) T f
 | o, _, _ => o
theorem heap_set_if (w : World) (b i k : Nat) (u : Value) : (w.setCell ⟨b, i, none⟩ u).heap[k]? = if k = b then (w.heap[k]?).map (fun o => Obj.put o i u) else w.heap[k]? := by
 by_cases h : k = b
 ·subst h
  rw [if_pos rfl]
  by_cases hk : k < w.heap.size
  ·cases hx : w.heap[k]? with
   | none => simp at hx; omega
   | some o =>
    cases o with
    | cells c T f => simpa [Obj.put] using h_set_eq (i := i) (u := u) hx
    | _ => simp [World.setCell, Array.getElem?_modify, hx, Obj.put]
  ·rw [Array.getElem?_eq_none (by simp [World.setCell]; omega), Array.getElem?_eq_none (by omega)]; rfl
 ·rw [if_neg h, Below.heap_setCell _ _ _ _ h]
theorem heap_alloc_if (w : World) (o : Obj) (k : Nat) : (w.alloc o).heap[k]? = if k = w.heap.size then some o else w.heap[k]? := by
 by_cases h : k = w.heap.size
 ·subst h; rw [if_pos rfl]; exact h_new w o
 ·rw [if_neg h]
  by_cases hk : k < w.heap.size
  ·exact (MapKept.heap_alloc w o).2 k hk
  ·rw [Array.getElem?_eq_none (by simp; omega), Array.getElem?_eq_none (by omega)]
theorem heap_drew (w : World) (k : Nat) : w.drew.heap[k]? = w.heap[k]? := rfl

/-! ### a row's cells, all at once; short names -/
theorem cf1 {w : World} {b : Nat} {T : TypeId} {c0 : Value} (h : w.heap[b]? = some (.cells #[c0] T (0, 0))) : b < w.heap.size ∧ w.cell? ⟨b, 0, none⟩ = some c0 ∧ w.frozen? ⟨b, 0, none⟩ = false :=
 ⟨h_lt h, cell_of_heap h 0, frozen_of_heap h 0⟩
theorem cf2 {w : World} {b : Nat} {T : TypeId} {c0 c1 : Value} (h : w.heap[b]? = some (.cells #[c0, c1] T (0, 0))) : b < w.heap.size ∧ w.cell? ⟨b, 0, none⟩ = some c0 ∧ w.cell? ⟨b, 1, none⟩ = some c1 ∧ w.frozen? ⟨b, 0, none⟩ = false ∧ w.frozen? ⟨b, 1, none⟩ = false :=
 ⟨h_lt h, cell_of_heap h 0, cell_of_heap h 1, frozen_of_heap h 0, frozen_of_heap h 1⟩
theorem cf3 {w : World} {b : Nat} {T : TypeId} {c0 c1 c2 : Value} (h : w.heap[b]? = some (.cells #[c0, c1, c2] T (0, 0))) : b < w.heap.size ∧ w.cell? ⟨b, 0, none⟩ = some c0 ∧ w.cell? ⟨b, 1, none⟩ = some c1 ∧ w.cell? ⟨b, 2, none⟩ = some c2 ∧ w.frozen? ⟨b, 0, none⟩ = false ∧ w.frozen? ⟨b, 1, none⟩ = false ∧ w.frozen? ⟨b, 2, none⟩ = false :=
 ⟨h_lt h, cell_of_heap h 0, cell_of_heap h 1, cell_of_heap h 2, frozen_of_heap h 0, frozen_of_heap h 1, frozen_of_heap h 2⟩
theorem cf5 {w : World} {b : Nat} {T : TypeId} {c0 c1 c2 c3 c4 : Value} (h : w.heap[b]? = some (.cells #[c0, c1, c2, c3, c4] T (0, 0))) : b < w.heap.size ∧ w.cell? ⟨b, 0, none⟩ = some c0 ∧ w.cell? ⟨b, 1, none⟩ = some c1 ∧ w.cell? ⟨b, 2, none⟩ = some c2 ∧ w.cell? ⟨b, 3, none⟩ = some c3 ∧ w.cell? ⟨b, 4, none⟩ = some c4 ∧ w.frozen? ⟨b, 0, none⟩ = false ∧ w.frozen? ⟨b, 1, none⟩ = false ∧ w.frozen? ⟨b, 2, none⟩ = false ∧ w.frozen? ⟨b, 3, none⟩ = false ∧ w.frozen? ⟨b, 4, none⟩ = false :=
 ⟨h_lt h, cell_of_heap h 0, cell_of_heap h 1, cell_of_heap h 2, cell_of_heap h 3, cell_of_heap h 4, frozen_of_heap h 0, frozen_of_heap h 1, frozen_of_heap h 2, frozen_of_heap h 3, frozen_of_heap h 4⟩
theorem cf6 {w : World} {b : Nat} {T : TypeId} {c0 c1 c2 c3 c4 c5 : Value} (h : w.heap[b]? = some (.cells #[c0, c1, c2, c3, c4, c5] T (0, 0))) : b < w.heap.size ∧ w.cell? ⟨b, 0, none⟩ = some c0 ∧ w.cell? ⟨b, 1, none⟩ = some c1 ∧ w.cell? ⟨b, 2, none⟩ = some c2 ∧ w.cell? ⟨b, 3, none⟩ = some c3 ∧ w.cell? ⟨b, 4, none⟩ = some c4 ∧ w.cell? ⟨b, 5, none⟩ = some c5 ∧ w.frozen? ⟨b, 0, none⟩ = false ∧ w.frozen? ⟨b, 1, none⟩ = false ∧ w.frozen? ⟨b, 2, none⟩ = false ∧ w.frozen? ⟨b, 3, none⟩ = false ∧ w.frozen? ⟨b, 4, none⟩ = false ∧ w.frozen? ⟨b, 5, none⟩ = false :=
 ⟨h_lt h, cell_of_heap h 0, cell_of_heap h 1, cell_of_heap h 2, cell_of_heap h 3, cell_of_heap h 4, cell_of_heap h 5, frozen_of_heap h 0, frozen_of_heap h 1, frozen_of_heap h 2, frozen_of_heap h 3, frozen_of_heap h 4, frozen_of_heap h 5⟩
theorem cf7 {w : World} {b : Nat} {T : TypeId} {c0 c1 c2 c3 c4 c5 c6 : Value} (h : w.heap[b]? = some (.cells #[c0, c1, c2, c3, c4, c5, c6] T (0, 0))) : b < w.heap.size ∧ w.cell? ⟨b, 0, none⟩ = some c0 ∧ w.cell? ⟨b, 1, none⟩ = some c1 ∧ w.cell? ⟨b, 2, none⟩ = some c2 ∧ w.cell? ⟨b, 3, none⟩ = some c3 ∧ w.cell? ⟨b, 4, none⟩ = some c4 ∧ w.cell? ⟨b, 5, none⟩ = some c5 ∧ w.cell? ⟨b, 6, none⟩ = some c6 ∧ w.frozen? ⟨b, 0, none⟩ = false ∧ w.frozen? ⟨b, 1, none⟩ = false ∧ w.frozen? ⟨b, 2, none⟩ = false ∧ w.frozen? ⟨b, 3, none⟩ = false ∧ w.frozen? ⟨b, 4, none⟩ = false ∧ w.frozen? ⟨b, 5, none⟩ = false ∧ w.frozen? ⟨b, 6, none⟩ = false :=
 ⟨h_lt h, cell_of_heap h 0, cell_of_heap h 1, cell_of_heap h 2, cell_of_heap h 3, cell_of_heap h 4, cell_of_heap h 5, cell_of_heap h 6, frozen_of_heap h 0, frozen_of_heap h 1, frozen_of_heap h 2, frozen_of_heap h 3, frozen_of_heap h 4, frozen_of_heap h 5, frozen_of_heap h 6⟩
theorem cf8 {w : World} {b : Nat} {T : TypeId} {c0 c1 c2 c3 c4 c5 c6 c7 : Value} (h : w.heap[b]? = some (.cells #[c0, c1, c2, c3, c4, c5, c6, c7] T (0, 0))) : b < w.heap.size ∧ w.cell? ⟨b, 0, none⟩ = some c0 ∧ w.cell? ⟨b, 1, none⟩ = some c1 ∧ w.cell? ⟨b, 2, none⟩ = some c2 ∧ w.cell? ⟨b, 3, none⟩ = some c3 ∧ w.cell? ⟨b, 4, none⟩ = some c4 ∧ w.cell? ⟨b, 5, none⟩ = some c5 ∧ w.cell? ⟨b, 6, none⟩ = some c6 ∧ w.cell? ⟨b, 7, none⟩ = some c7 ∧ w.frozen? ⟨b, 0, none⟩ = false ∧ w.frozen? ⟨b, 1, none⟩ = false ∧ w.frozen? ⟨b, 2, none⟩ = false ∧ w.frozen? ⟨b, 3, none⟩ = false ∧ w.frozen? ⟨b, 4, none⟩ = false ∧ w.frozen? ⟨b, 5, none⟩ = false ∧ w.frozen? ⟨b, 6, none⟩ = false ∧ w.frozen? ⟨b, 7, none⟩ = false :=
 ⟨h_lt h, cell_of_heap h 0, cell_of_heap h 1, cell_of_heap h 2, cell_of_heap h 3, cell_of_heap h 4, cell_of_heap h 5, cell_of_heap h 6, cell_of_heap h 7, frozen_of_heap h 0, frozen_of_heap h 1, frozen_of_heap h 2, frozen_of_heap h 3, frozen_of_heap h 4, frozen_of_heap h 5, frozen_of_heap h 6, frozen_of_heap h 7⟩
theorem cf9 {w : World} {b : Nat} {T : TypeId} {c0 c1 c2 c3 c4 c5 c6 c7 c8 : Value} (h : w.heap[b]? = some (.cells #[c0, c1, c2, c3, c4, c5, c6, c7, c8] T (0, 0))) : b < w.heap.size ∧ w.cell? ⟨b, 0, none⟩ = some c0 ∧ w.cell? ⟨b, 1, none⟩ = some c1 ∧ w.cell? ⟨b, 2, none⟩ = some c2 ∧ w.cell? ⟨b, 3, none⟩ = some c3 ∧ w.cell? ⟨b, 4, none⟩ = some c4 ∧ w.cell? ⟨b, 5, none⟩ = some c5 ∧ w.cell? ⟨b, 6, none⟩ = some c6 ∧ w.cell? ⟨b, 7, none⟩ = some c7 ∧ w.cell? ⟨b, 8, none⟩ = some c8 ∧ w.frozen? ⟨b, 0, none⟩ = false ∧ w.frozen? ⟨b, 1, none⟩ = false ∧ w.frozen? ⟨b, 2, none⟩ = false ∧ w.frozen? ⟨b, 3, none⟩ = false ∧ w.frozen? ⟨b, 4, none⟩ = false ∧ w.frozen? ⟨b, 5, none⟩ = false ∧ w.frozen? ⟨b, 6, none⟩ = false ∧ w.frozen? ⟨b, 7, none⟩ = false ∧ w.frozen? ⟨b, 8, none⟩ = false :=
 ⟨h_lt h, cell_of_heap h 0, cell_of_heap h 1, cell_of_heap h 2, cell_of_heap h 3, cell_of_heap h 4, cell_of_heap h 5, cell_of_heap h 6, cell_of_heap h 7, cell_of_heap h 8, frozen_of_heap h 0, frozen_of_heap h 1, frozen_of_heap h 2, frozen_of_heap h 3, frozen_of_heap h 4, frozen_of_heap h 5, frozen_of_heap h 6, frozen_of_heap h 7, frozen_of_heap h 8⟩
theorem cf10 {w : World} {b : Nat} {T : TypeId} {c0 c1 c2 c3 c4 c5 c6 c7 c8 c9 : Value} (h : w.heap[b]? = some (.cells #[c0, c1, c2, c3, c4, c5, c6, c7, c8, c9] T (0, 0))) : b < w.heap.size ∧ w.cell? ⟨b, 0, none⟩ = some c0 ∧ w.cell? ⟨b, 1, none⟩ = some c1 ∧ w.cell? ⟨b, 2, none⟩ = some c2 ∧ w.cell? ⟨b, 3, none⟩ = some c3 ∧ w.cell? ⟨b, 4, none⟩ = some c4 ∧ w.cell? ⟨b, 5, none⟩ = some c5 ∧ w.cell? ⟨b, 6, none⟩ = some c6 ∧ w.cell? ⟨b, 7, none⟩ = some c7 ∧ w.cell? ⟨b, 8, none⟩ = some c8 ∧ w.cell? ⟨b, 9, none⟩ = some c9 ∧ w.frozen? ⟨b, 0, none⟩ = false ∧ w.frozen? ⟨b, 1, none⟩ = false ∧ w.frozen? ⟨b, 2, none⟩ = false ∧ w.frozen? ⟨b, 3, none⟩ = false ∧ w.frozen? ⟨b, 4, none⟩ = false ∧ w.frozen? ⟨b, 5, none⟩ = false ∧ w.frozen? ⟨b, 6, none⟩ = false ∧ w.frozen? ⟨b, 7, none⟩ = false ∧ w.frozen? ⟨b, 8, none⟩ = false ∧ w.frozen? ⟨b, 9, none⟩ = false :=
 ⟨h_lt h, cell_of_heap h 0, cell_of_heap h 1, cell_of_heap h 2, cell_of_heap h 3, cell_of_heap h 4, cell_of_heap h 5, cell_of_heap h 6, cell_of_heap h 7, cell_of_heap h 8, cell_of_heap h 9, frozen_of_heap h 0, frozen_of_heap h 1, frozen_of_heap h 2, frozen_of_heap h 3, frozen_of_heap h 4, frozen_of_heap h 5, frozen_of_heap h 6, frozen_of_heap h 7, frozen_of_heap h 8, frozen_of_heap h 9⟩
theorem cf11 {w : World} {b : Nat} {T : TypeId} {c0 c1 c2 c3 c4 c5 c6 c7 c8 c9 c10 : Value} (h : w.heap[b]? = some (.cells #[c0, c1, c2, c3, c4, c5, c6, c7, c8, c9, c10] T (0, 0))) : b < w.heap.size ∧ w.cell? ⟨b, 0, none⟩ = some c0 ∧ w.cell? ⟨b, 1, none⟩ = some c1 ∧ w.cell? ⟨b, 2, none⟩ = some c2 ∧ w.cell? ⟨b, 3, none⟩ = some c3 ∧ w.cell? ⟨b, 4, none⟩ = some c4 ∧ w.cell? ⟨b, 5, none⟩ = some c5 ∧ w.cell? ⟨b, 6, none⟩ = some c6 ∧ w.cell? ⟨b, 7, none⟩ = some c7 ∧ w.cell? ⟨b, 8, none⟩ = some c8 ∧ w.cell? ⟨b, 9, none⟩ = some c9 ∧ w.cell? ⟨b, 10, none⟩ = some c10 ∧ w.frozen? ⟨b, 0, none⟩ = false ∧ w.frozen? ⟨b, 1, none⟩ = false ∧ w.frozen? ⟨b, 2, none⟩ = false ∧ w.frozen? ⟨b, 3, none⟩ = false ∧ w.frozen? ⟨b, 4, none⟩ = false ∧ w.frozen? ⟨b, 5, none⟩ = false ∧ w.frozen? ⟨b, 6, none⟩ = false ∧ w.frozen? ⟨b, 7, none⟩ = false ∧ w.frozen? ⟨b, 8, none⟩ = false ∧ w.frozen? ⟨b, 9, none⟩ = false ∧ w.frozen? ⟨b, 10, none⟩ = false :=
 ⟨h_lt h, cell_of_heap h 0, cell_of_heap h 1, cell_of_heap h 2, cell_of_heap h 3, cell_of_heap h 4, cell_of_heap h 5, cell_of_heap h 6, cell_of_heap h 7, cell_of_heap h 8, cell_of_heap h 9, cell_of_heap h 10, frozen_of_heap h 0, frozen_of_heap h 1, frozen_of_heap h 2, frozen_of_heap h 3, frozen_of_heap h 4, frozen_of_heap h 5, frozen_of_heap h 6, frozen_of_heap h 7, frozen_of_heap h 8, frozen_of_heap h 9, frozen_of_heap h 10⟩
theorem k0 (fp : List Nat) (w : World) : Keeps fp w w := Keeps.refl _ _
theorem kA {fp : List Nat} {w W : World} (h : Keeps fp w W) (o : Obj) : Keeps fp w (W.alloc o) := keep_alloc h o
theorem kD {fp : List Nat} {w W : World} (h : Keeps fp w W) : Keeps fp w W.drew := keep_drew h
theorem kS {fp : List Nat} {w W : World} (h : Keeps fp w W) {b i : Nat} {u : Value} (hb : b ∈ fp ∨ w.heap.size ≤ b) : Keeps fp w (W.setCell ⟨b, i, none⟩ u) := keep_set h hb
theorem kM {fp : List Nat} {w W : World} (h : Keeps fp w W) {b : Nat} {o : Obj} (hb : b ∈ fp ∨ w.heap.size ≤ b) : Keeps fp w (mset W b o) :=
 h.trans (fp' := [b]) (Keeps.mset _ _ _ _ (by simp)) (by simpa using hb)
theorem hS (w : World) (b i k : Nat) (u : Value) : (w.setCell ⟨b, i, none⟩ u).heap[k]? = if k = b then (w.heap[k]?).map (fun o => Obj.put o i u) else w.heap[k]? := heap_set_if w b i k u
theorem hA (w : World) (o : Obj) (k : Nat) : (w.alloc o).heap[k]? = if k = w.heap.size then some o else w.heap[k]? := heap_alloc_if w o k
theorem hD (w : World) (k : Nat) : w.drew.heap[k]? = w.heap[k]? := rfl
theorem hM (w : World) (b k : Nat) (o : Obj) : (mset w b o).heap[k]? = if k = b then (w.heap[k]?).map (fun _ => o) else w.heap[k]? := by
 by_cases h : k = b
 ·subst h
  rw [if_pos rfl]
  by_cases hk : k < w.heap.size
  ·rw [heap_mset_eq hk]; simp [hk]
  ·rw [Array.getElem?_eq_none (by simp [mset]; omega), Array.getElem?_eq_none (by omega)]; rfl
 ·rw [if_neg h, heap_mset_ne h]

/-! ### nodes in a stretch of blocks -/
def Seg (a b : Nat) : Nat → Prop := fun g => a ≤ g ∧ g < b
mutual
theorem NodeR.segS {w : World} {S : Nat → Prop} {n : Node} {v : Value} (h : NodeR w S n v) : NodeR w (fun g => S g ∧ g < w.heap.size) n v := by
 cases h with
 | mk h => exact .mk (KidsR.segS h)
theorem KidsR.segS {w : World} {S : Nat → Prop} {ns : List Node} {v : Value} (h : KidsR w S ns v) : KidsR w (fun g => S g ∧ g < w.heap.size) ns v := by
 cases h with
 | nil => exact .nil
 | some hS hg h => exact .some ⟨hS, hg⟩ hg (RowR.segS h)
theorem RowR.segS {w : World} {S : Nat → Prop} {g o : Nat} {ns : List Node} (h : RowR w S g o ns) : RowR w (fun g => S g ∧ g < w.heap.size) g o ns := by
 cases h with
 | nil => exact .nil
 | cons hn h0 h1 h2 h3 h4 hr => exact .cons (NodeR.segS hn) h0 h1 h2 h3 h4 (RowR.segS hr)
end
theorem NodeR.seg {w : World} {a : Nat} {n : Node} {v : Value} (h : NodeR w (fun g => a ≤ g) n v) : NodeR w (Seg a w.heap.size) n v := h.segS
theorem KidsR.seg {w : World} {a : Nat} {n : List Node} {v : Value} (h : KidsR w (fun g => a ≤ g) n v) : KidsR w (Seg a w.heap.size) n v := h.segS
theorem NodeR.kp {w w' : World} {S : Nat → Prop} {fp : List Nat} {n : Node} {v : Value} (h : NodeR w S n v) (hk : Keeps fp w w') (hf : ∀ x ∈ fp, ¬ S x) : NodeR w' S n v := h.keep hk hf fun _ h => h
theorem KidsR.kp {w w' : World} {S : Nat → Prop} {fp : List Nat} {n : List Node} {v : Value} (h : KidsR w S n v) (hk : Keeps fp w w') (hf : ∀ x ∈ fp, ¬ S x) : KidsR w' S n v := h.keep hk hf fun _ h => h
theorem NodeR.to {w : World} {S T : Nat → Prop} {n : Node} {v : Value} (h : NodeR w S n v) (hT : ∀ x, S x → T x) : NodeR w T n v := h.keep (Keeps.refl [] w) (by simp) hT
theorem KidsR.to {w : World} {S T : Nat → Prop} {n : List Node} {v : Value} (h : KidsR w S n v) (hT : ∀ x, S x → T x) : KidsR w T n v := h.keep (Keeps.refl [] w) (by simp) hT
theorem row1 {w : World} {S T : Nat → Prop} {n : Node} {c0 c1 c2 c3 c4 : Value} {g : Nat} {f : Nat × Nat} (h : NodeR w S n (.agg #[c0, c1, c2, c3, c4])) (hT : ∀ x, S x → T x) (hr : w.heap[g]? = some (.cells #[c0, c1, c2, c3, c4] 50 f)) : RowR w T g 0 [n] :=
 .cons (h.to hT) (by rw [cell_of_heap hr]; rfl) (by rw [cell_of_heap hr]; rfl) (by rw [cell_of_heap hr]; rfl) (by rw [cell_of_heap hr]; rfl) (by rw [cell_of_heap hr]; rfl) .nil
theorem row2 {w : World} {S S' T : Nat → Prop} {n m : Node} {c0 c1 c2 c3 c4 d0 d1 d2 d3 d4 : Value} {g : Nat} {f : Nat × Nat} (h : NodeR w S n (.agg #[c0, c1, c2, c3, c4])) (hT : ∀ x, S x → T x) (h' : NodeR w S' m (.agg #[d0, d1, d2, d3, d4])) (hT' : ∀ x, S' x → T x)
  (hr : w.heap[g]? = some (.cells #[c0, c1, c2, c3, c4, d0, d1, d2, d3, d4] 50 f)) : RowR w T g 0 [n, m] :=
 .cons (h.to hT) (by rw [cell_of_heap hr]; rfl) (by rw [cell_of_heap hr]; rfl) (by rw [cell_of_heap hr]; rfl) (by rw [cell_of_heap hr]; rfl) (by rw [cell_of_heap hr]; rfl)
  (.cons (h'.to hT') (by rw [cell_of_heap hr]; rfl) (by rw [cell_of_heap hr]; rfl) (by rw [cell_of_heap hr]; rfl) (by rw [cell_of_heap hr]; rfl) (by rw [cell_of_heap hr]; rfl) .nil)

/-- The parser, some of its cells stored into. -/
theorem PP.upd {s : ByteArray} {p : Nat} {st st' : PSt} {W W' : World} {fp : List Nat} (h : PP s p st W) (hk : Keeps fp W W') (hf : ∀ x ∈ fp, 14 < x) (hr : W'.heap[p]? = some (parC s st')) (hl : st'.pos ≤ s.size) (ho : -100 ≤ st'.opn ∧ st'.opn ≤ 40) : PP s p st' W' :=
 ⟨h.gl.keep hk hf, hr, h.p, h.size, hl, ho⟩

theorem hands_at {s : ByteArray} {p : Nat} {st st' : PSt} {n : Node} {f : FuncId} {b : World} (h : Hands s p st st' n f) (hp : PP s p st b) (W : World) (hk : Keeps [] b W) :
  Calls Tryz.prog f #[.pointer (some ⟨p, 0, none⟩)] W fun r w' => ∃ v, r = .returned v ∧ (NodeR w' (Seg b.heap.size w'.heap.size) n v ∧ PP s p st' w' ∧ Keeps [p] b w') :=
 (h W (hp.keep hk)).mono fun _ _ ⟨v, hr, hn, hp', hk'⟩ => ⟨v, hr, (hn.to fun _ h => Nat.le_trans hk.size h).seg, hp', (hk.weaken (by simp)).trans hk' (by simp)⟩
end Go.Proofs.YtkfillfkbhbbjaaGreatDoor
namespace Go.Proofs.YtkfillfkbhbbjaaGreatDoor
open Go.RowKit Go.MapKept

/-- An entry of a map. -/
structure Ent (κ : Type) where
 key : κ
 val : Value
 born : Nat
def ents {κ : Type} (emb : κ → Value) (l : List (Ent κ)) : Array MapEntry := (l.map fun e => ⟨emb e.key, e.val, e.born⟩).toArray
def klook {κ : Type} [DecidableEq κ] (k : κ) : List (Ent κ) → Nat → Option (Nat × Value)
 | [], _ => none
 | e :: es, i => if k = e.key then some (i, e.val) else klook k es (i + 1)
def kval {κ : Type} [DecidableEq κ] (k : κ) (l : List (Ent κ)) : Option Value := (klook k l 0).map (·.2)
/-- What 'm[k] = v' makes of the entries. -/
def kput {κ : Type} [DecidableEq κ] (k : κ) (v : Value) (clock : Nat) (l : List (Ent κ)) : List (Ent κ) × Nat :=
 match klook k l 0 with
 | some (i, _) => (l.modify i fun e => { e with val := v }, clock)
 | none => (l ++ [⟨k, v, clock⟩], clock + 1)
theorem klook_some {κ : Type} [DecidableEq κ] {k : κ} : ∀ {l : List (Ent κ)} {i j : Nat} {v : Value}, klook k l i = some (j, v) → i ≤ j ∧ ∃ e, l[j - i]? = some e ∧ e.key = k ∧ e.val = v
 | [], _, _, _, h => by cases h
 | e :: es, i, j, v, h => by
  unfold klook at h
  split at h
  ·rename_i hk
   simp only [Option.some.injEq, Prod.mk.injEq] at h
   obtain ⟨rfl, rfl⟩ := h
   exact ⟨Nat.le_refl _, e, by simp, hk.symm, rfl⟩
  ·obtain ⟨h1, e', h2, h3⟩ := klook_some h
   refine ⟨by omega, e', ?_, h3⟩
   rw [show j - i = (j - (i + 1)) + 1 from by omega]
   simpa using h2

/-- What a kind of keys must bear. -/
structure KeyK {κ : Type} [DecidableEq κ] (P : Program) (K : TypeId) (emb : κ → Value) : Prop where
 find : ∀ (w : World) (k : κ) (l : List (Ent κ)), (Instr.findKey K (emb k) (ents emb l).toList).run P w = .ok (klook k l 0) w
 check : ∀ (w : World) (em : Bool) (k : κ), (Instr.checkKey em 10000 K (emb k)).run P w = .ok () w
 stays : ∀ (w : World) (k : κ), (Instr.keyThatStays (emb k) (emb k)).run P w = .ok (emb k) w

section
variable {P : Program} {κ : Type} [DecidableEq κ] {T K E : TypeId} {emb : κ → Value} {b clock : Nat} {l : List (Ent κ)} {w : World}
theorem run_klook_ok (hK : KeyK P K emb) (hT : P.underlying T = some (.map K E)) {z : Value} (hz : (zeroValue E).run P w = .ok z w) (hb : w.heap[b]? = some (.map (ents emb l) clock)) (k : κ) :
  (Instr.lookup T (.map (some b)) (emb k) true).run P w = .ok (.tuple #[(kval k l).getD z, .bool (kval k l).isSome]) w := by
 have hf := hK.find w k l
 unfold kval
 simp only [Instr.lookup, Sem.run_bind, run_underlying hT, MapKept.run_getObj_map hb, hK.check, Result.andThen]
 cases h : klook k l 0 with
 | none => rw [h] at hf; simp [hz, hf, Result.andThen]
 | some x => rw [h] at hf; simp [hf]
theorem run_klook (hK : KeyK P K emb) (hT : P.underlying T = some (.map K E)) {z : Value} (hz : (zeroValue E).run P w = .ok z w) (hb : w.heap[b]? = some (.map (ents emb l) clock)) (k : κ) :
  (Instr.lookup T (.map (some b)) (emb k) false).run P w = .ok ((kval k l).getD z) w := by
 have hf := hK.find w k l
 unfold kval
 simp only [Instr.lookup, Sem.run_bind, run_underlying hT, MapKept.run_getObj_map hb, hK.check, Result.andThen]
 cases h : klook k l 0 with
 | none => rw [h] at hf; simp [hz, hf, Result.andThen]
 | some x => rw [h] at hf; simp [hf]
theorem run_kput (hK : KeyK P K emb) (hT : P.underlying T = some (.map K E)) (hb : w.heap[b]? = some (.map (ents emb l) clock)) (k : κ) (v : Value) :
  (Instr.mapUpdate T (.map (some b)) (emb k) v).run P w = .ok () (mset w b (.map (ents emb (kput k v clock l).1) (kput k v clock l).2)) := by
 have hf := hK.find w k l
 unfold kput
 cases h : klook k l 0 with
 | none =>
  rw [h] at hf
  simp only [Instr.mapUpdate, Sem.run_bind, run_underlying hT, MapKept.run_getObj_map hb, hK.check, hf, Result.andThen, run_setObj_map _ hb]
  simp [ents, mset]
 | some x =>
  obtain ⟨i, u⟩ := x
  rw [h] at hf
  obtain ⟨_, e, he, hse, _⟩ := klook_some h
  have hi : (ents emb l)[i]? = some ⟨emb e.key, e.val, e.born⟩ := by simp [ents] at he ⊢; exact ⟨e, he, rfl, rfl, rfl⟩
  have hkk : ((((ents emb l)[i]?).map (·.key)).getD (emb k)) = emb k := by rw [hi]; simp [hse]
  simp only [Instr.mapUpdate, Sem.run_bind, run_underlying hT, MapKept.run_getObj_map hb, hK.check, hf, Result.andThen, run_setObj_map _ hb, hkk, hK.stays, mset]
  congr 4
  apply Array.ext'
  simp only [ents, Array.toList_modify]
  apply List.ext_getElem?
  intro j
  simp only [List.getElem?_modify, List.getElem?_map]
  by_cases hij : i = j
  ·subst hij
   simp only [Nat.sub_zero] at he
   simp [he, hse]
  ·simp [hij]
end

/-! ### keys that are strings -/
theorem bytes_eq_iff {a b : ByteArray} : (a == b) = decide (a = b) := by
 by_cases h : a = b
 ·subst h; simp [(bytes_beq a a).2 rfl]
 ·have : ¬ (a == b) = true := fun h2 => h ((bytes_beq a b).1 h2)
  simp [h, this]
theorem keyS {P : Program} {K : TypeId} (hK : P.underlying K = some .string) : KeyK P K (fun s : ByteArray => Value.string s) := {
 find := fun w k l => by
  refine run_findKey hK ?_
  have h : ∀ (l : List (Ent ByteArray)) (i : Nat), Instr.findNow .string (.string k) (l.map fun e => (⟨.string e.key, e.val, e.born⟩ : MapEntry)) i = some (klook k l i) := by
   intro l
   induction l with
   | nil => intro i; rfl
   | cons e es ih =>
    intro i
    simp only [List.map_cons, Instr.findNow, klook, Instr.sameNow]
    by_cases h : k = e.key
    ·subst h; simp [(bytes_beq e.key e.key).2 rfl]
    ·rw [bytes_eq_iff]; simp [h, ih]
  simpa [ents] using h l 0
 check := fun w em k => MapKept.run_checkKey hK (by simp [IsKey]) em 9999
 stays := fun w k => MapKept.run_keyThatStays (d := .string) (by simp [IsKey])
 }
/-! ### keys that are things -/
abbrev Thing := Nat × ByteArray
def tval (t : Thing) : Value := .agg #[.int .i64 t.1, .string t.2]
theorem tval_inj {a b : Thing} (h : tval a = tval b) : a = b := by
 obtain ⟨x, y⟩ := a; obtain ⟨x2, y2⟩ := b
 simp [tval] at h
 have h1 : x = x2 := by have := h.1; omega
 rw [h1, h.2]
theorem run_equal_thing (w : World) (d : Nat) (a b : Thing) : (Op.equalIn (d + 2) 101 (tval a) (tval b)).run Tryz.prog w = .ok (decide (a = b)) w := by
 obtain ⟨x, y⟩ := a; obtain ⟨x2, y2⟩ := b
 have hs : Tryz.prog.stoodInHeld 101 = false := by kernel_rfl
 unfold tval
 rw [run_equalIn_struct w (d + 1) 101 _ _ (by rw [Program.fieldsOf, Tryz.underlying101]) hs]
 rw [Program.fieldsOf, Tryz.underlying101]
 simp [Op.eqFields, go_sem]
 have e1 : ((x : Int) = x2) = (x = x2) := propext ⟨fun h => by omega, fun h => by rw [h]⟩
 have e2 : (y.toList = y2.toList) = (y = y2) := by
  rw [ByteArray.toList_eq, ByteArray.toList_eq]
  refine propext ⟨fun h => ?_, fun h => by rw [h]⟩
  cases y; cases y2; simpa using h
 simp only [e1, e2]
 by_cases h1 : x = x2 <;> by_cases h2 : y = y2 <;> simp [h1, h2]
theorem keyT : KeyK Tryz.prog 101 tval := {
 find := fun w k l => by
  rw [run_findKey_eq w (by rw [Tryz.underlying101])]
  have h : ∀ (l : List (Ent Thing)) (i : Nat), (Instr.findAsking 101 (tval k) (l.map fun e => (⟨tval e.key, e.val, e.born⟩ : MapEntry)) i).run Tryz.prog w = .ok (klook k l i) w := by
   intro l
   induction l with
   | nil => intro i; simp [Instr.findAsking, klook]
   | cons e es ih =>
    intro i
    have he := run_equal_thing w 9998 k e.key
    simp only [List.map_cons, Instr.findAsking, klook, Sem.run_bind, Op.equal, Op.maxDepth, he, Result.andThen]
    by_cases h : k = e.key
    ·simp [h]
    ·simp [h, ih]
  simpa [ents] using h l 0
 check := fun w em k => by
  obtain ⟨x, y⟩ := k
  have h3 : ∀ n w, (Instr.checkKey em (n + 1) 3 (.int .i64 x)).run Tryz.prog w = .ok () w := fun n w => MapKept.run_checkKey Tryz.underlying3 (by simp [IsKey]) em n
  have h9 : ∀ n w, (Instr.checkKey em (n + 1) 9 (.string y)).run Tryz.prog w = .ok () w := fun n w => MapKept.run_checkKey Tryz.underlying9 (by simp [IsKey]) em n
  show (Instr.checkKey em (9998 + 1 + 1) 101 (.agg #[.int .i64 x, .string y])).run Tryz.prog w = .ok () w
  generalize (9998 : Nat) = n at *
  rw [Instr.checkKey]
  simp only [Sem.run_bind, run_underlying Tryz.underlying101, Result.andThen]
  have hp1 : (part 3 #[Value.int IntKind.i64 x, Value.string y] 0).run Tryz.prog w = .ok (.int .i64 x) w := by simp [go_sem]
  have hp2 : (part 9 #[Value.int IntKind.i64 x, Value.string y] 1).run Tryz.prog w = .ok (.string y) w := by simp [go_sem]
  simp [hp1, hp2, h3, h9, Result.andThen]
 stays := fun w k => by
  obtain ⟨x, y⟩ := k
  have : (y == y) = true := (bytes_beq y y).2 rfl
  simp [Instr.keyThatStays, tval, Instr.sameBits, this]
 }
end Go.Proofs.YtkfillfkbhbbjaaGreatDoor
namespace Go.Proofs.YtkfillfkbhbbjaaGreatDoor

def Node.name : Node → ByteArray
 | .mk _ n _ _ _ _ => n
def Node.kids : Node → List Node
 | .mk _ _ _ k _ _ => k

structure Use where
 re : Nat
 im : Nat
 of : Thing
 array : Bool
 param : Thing
 kid : Bool
 bad : Bool
/-- The checker, but for the program and its functions' names. -/
structure NS where
 fn : Nat
 rule : Int
 loops : Int
 uses : List Use
 same : List (Thing × Thing)
 seen : List Thing
 re : Nat
 im : Nat
 e : Int

def specials : List ByteArray := [bs [78, 82], bs [78, 70], bs [70, 83], bs [79, 70, 83], bs [79, 82, 83], bs [82, 83], bs [83, 85, 66, 83, 69, 80], bs [67, 79, 78, 86, 70, 77, 84], bs [79, 70, 77, 84], bs [82, 83, 84, 65, 82, 84], bs [82, 76, 69, 78, 71, 84, 72], bs [78, 79, 87], bs [71, 65, 80, 83]]
def memB (s : ByteArray) : List ByteArray → Bool
 | [] => false
 | x :: l => if same s x then true else memB s l
def specialF (s : ByteArray) : Bool := memB s specials

/-- The number (from 1 on) of the first function of that name; 0: there is none. -/
def flookA (name : ByteArray) : List FuncP → Nat → Nat
 | [], _ => 0
 | f :: l, i => if same name f.name then i + 1 else flookA name l (i + 1)
def flook (g : ProgP) (name : ByteArray) : Nat := flookA name g.funcs 0
def paramsOf (g : ProgP) (fn : Nat) : List ByteArray := match g.funcs[fn - 1]? with
 | some f => f.params
 | none => []

def teq (a b : Thing) : Bool := a.1 == b.1 && Go.Proofs.YtkfillfkbhbbjaaGreatDoor.same a.2 b.2
def alook (k : Thing) : List (Thing × Thing) → Option Thing
 | [] => none
 | x :: l => if teq k x.1 then some x.2 else alook k l
def rootF (m : List (Thing × Thing)) : Nat → Thing → Option Thing
 | 0, _ => none
 | f + 1, t => match alook t m with
  | none => some t
  | some u => rootF m f u
def rootN (st : NS) (t : Thing) : Option Thing := rootF st.same (st.same.length + 1) t
def tmem (t : Thing) : List Thing → Bool
 | [] => false
 | x :: l => if teq t x then true else tmem t l
def seePut (st : NS) (t : Thing) : NS := { st with seen := if tmem t st.seen then st.seen else st.seen ++ [t] }

def faultF (st : NS) (re im : Nat) (e : Int) : NS := if st.e = 0 then { st with re := re, im := im, e := e } else st
def ofF (g : ProgP) (st : NS) (name : ByteArray) : Thing × NS :=
 if st.fn > 0 ∧ memB name (paramsOf g st.fn) = true then ((st.fn, name), st) else ((0, name), seePut st (0, name))
def namedF (g : ProgP) (st : NS) (n : Node) : NS := if flook g n.name > 0 then faultF st n.re n.im 28 else st
def useF (st : NS) (u : Use) : Option NS := if st.uses.length < 100000 then some { st with uses := st.uses ++ [u] } else none
def noT : Thing := (0, bs [])

/-- heads: what is asked of the parameters ahead (l) of one (s). -/
def headP (f : FuncP) (s : ByteArray) : List ByteArray → NS → NS
 | [], st => st
 | t :: l, st => headP f s l (if same t s then faultF st f.re f.im 29 else st)
def headPs (g : ProgP) (i : Nat) (f : FuncP) : List ByteArray → List ByteArray → NS → NS
 | _, [], st => st
 | pre, s :: l, st =>
  let st := headP f s pre st
  let st := if specialF s || decide (flook g s > 0) then faultF st f.re f.im 28 else st
  headPs g i f (pre ++ [s]) l (seePut st (i + 1, s))
def headsA (g : ProgP) : Nat → List FuncP → NS → NS
 | _, [], st => st
 | i, f :: l, st =>
  let st := if flook g f.name ≠ i + 1 then faultF st f.re f.im 29 else if specialF f.name then faultF st f.re f.im 28 else st
  headsA g (i + 1) l (headPs g i f [] f.params st)

/-- The least and the greatest number of kids of a function of the language. -/
def countsF (name : ByteArray) : Nat × Nat :=
 if memB name [bs [108, 101, 110, 103, 116, 104], bs [115, 114, 97, 110, 100]] then (0, 1)
 else if same name (bs [114, 97, 110, 100]) then (0, 0)
 else if memB name [bs [105, 110, 100, 101, 120], bs [109, 97, 116, 99, 104], bs [97, 116, 97, 110, 50], bs [101, 120, 112, 105, 114, 101]] then (2, 2)
 else if memB name [bs [115, 117, 98, 115, 116, 114], bs [115, 112, 108, 105, 116], bs [115, 117, 98], bs [103, 115, 117, 98]] then (2, 3)
 else if same name (bs [115, 112, 114, 105, 110, 116, 102]) then (1, 1073741824)
 else (1, 1)

abbrev NRec := NS → Node → Option NS
/-- The kids of a node (of no loop). -/
def kidsF (rec : NRec) : List Node → NS → Option NS
 | [], st => some st
 | k :: l, st => do
  let st ← rec st k
  kidsF rec l st
/-- The kids of a call; ps: the parameters from there on. -/
def callF (g : ProgP) (rec : NRec) (fn : Nat) : List ByteArray → List Node → NS → Option NS
 | _, [], st => some st
 | [], _ :: _, _ => none
 | p :: ps, k :: l, st => do
  if k.kind ≠ 4 then do
   let st ← useF st ⟨k.re, k.im, noT, false, (fn, p), true, false⟩
   let st ← rec st k
   callF g rec fn ps l st
  else do
   let o := ofF g (namedF g st k) k.name
   let a ← rootN o.2 o.1
   let b ← rootN o.2 (fn, p)
   callF g rec fn ps l (if teq a b then o.2 else { o.2 with same := o.2.same ++ [(a, b)] })
/-- A node itself, ahead of its kids. -/
def preF (g : ProgP) (st : NS) (n : Node) : Option NS :=
 if n.kind = 4 then useF (ofF g (namedF g st n) n.name).2 ⟨n.re, n.im, (ofF g (namedF g st n) n.name).1, false, noT, false, false⟩
 else if n.kind = 5 then useF (ofF g (namedF g st n) n.name).2 ⟨n.re, n.im, (ofF g (namedF g st n) n.name).1, true, noT, false, false⟩
 else if n.kind = 38 then some (if st.fn > 0 ∨ (st.rule ≠ 5 ∧ st.rule ≠ 6 ∧ st.rule ≠ 7) then faultF st n.re n.im 32 else st)
 else if n.kind = 40 then some (if st.fn = 0 then faultF st n.re n.im 32 else st)
 else if n.kind = 36 ∨ n.kind = 37 then some (if st.loops = 0 then faultF st n.re n.im 32 else st)
 else some st
/-- One node. Not spoken of (none): loops, and the language's own functions where their kids are as many as may be. -/
def nodeStep (g : ProgP) (rec : NRec) (st : NS) (n : Node) : Option NS :=
 if 1000000 < n.kids.length then none
 else if n.kind = 19 then
  if flook g n.name = 0 then some (faultF st n.re n.im 28)
  else if (paramsOf g (flook g n.name)).length < n.kids.length then some (faultF st n.re n.im 31)
  else callF g rec (flook g n.name) (paramsOf g (flook g n.name)) n.kids st
 else if n.kind = 20 then
  if n.kids.length < (countsF n.name).1 ∨ (countsF n.name).2 < n.kids.length then some (faultF st n.re n.im 31) else none
 else if n.kind = 11 ∨ n.kind = 41 ∨ n.kind = 32 ∨ n.kind = 33 ∨ n.kind = 34 ∨ n.kind = 35 then none
 else do
  let st ← preF g st n
  kidsF rec n.kids st
def nodeN (g : ProgP) : Nat → NRec
 | 0 => fun _ _ => none
 | f + 1 => nodeStep g (nodeN g f)

def patsF (rec : NRec) : List Node → NS → Option NS
 | [], st => some st
 | n :: l, st => do
  let st ← rec st n
  patsF rec l st
def allR (rec : NRec) : List RuleP → NS → Option NS
 | [], st => some st
 | r :: l, st => do
  let st ← patsF rec r.pats { st with rule := r.kind, loops := 0 }
  let st ← rec st r.body
  allR rec l st
def allF (rec : NRec) : Nat → List FuncP → NS → Option NS
 | _, [], st => some st
 | i, f :: l, st => do
  let st ← rec { st with fn := i + 1, loops := 0 } f.body
  allF rec (i + 1) l st

/-! ### kinds -/
abbrev Kinds := List (Thing × Nat)
def kof (t : Thing) : Kinds → Nat
 | [] => 0
 | x :: l => if teq t x.1 then x.2 else kof t l
def kindsS (st : NS) : List Thing → Kinds → Option Kinds
 | [], k => some k
 | t :: l, k => if t.1 = 0 ∧ specialF t.2 = true then do
   let r ← rootN st t
   kindsS st l ((r, 1) :: k)
  else kindsS st l k
def kindsU (st : NS) : List Use → Kinds → Option Kinds
 | [], k => some k
 | u :: l, k => if u.kid || u.bad then kindsU st l k else do
   let r ← rootN st u.of
   kindsU st l (if kof r k > 0 then k else (r, if u.array then 2 else 1) :: k)
def kindsF (st : NS) : Option Kinds := do
 let k ← kindsS st st.seen []
 kindsU st st.uses k
def arraysF (k : Kinds) : List Use → NS → Option NS
 | [], st => some st
 | u :: l, st => do
  let b ← (if u.bad then some true
   else if u.kid then do
    let r ← rootN st u.param
    some (kof r k == 2)
   else do
    let r ← rootN st u.of
    some ((kof r k == 2) != u.array))
  arraysF k l (if b then faultF st u.re u.im 30 else st)

/-! ### what is told -/
def ltB : List UInt8 → List UInt8 → Bool
 | _, [] => false
 | [], _ :: _ => true
 | a :: x, b :: y => if a < b then true else if b < a then false else ltB x y
def insB (s : ByteArray) : List ByteArray → List ByteArray
 | [] => [s]
 | x :: l => if ltB x.data.toList s.data.toList then x :: insB s l else s :: x :: l
def sortB : List ByteArray → List ByteArray
 | [] => []
 | x :: l => insB x (sortB l)
structure InfoP where
 scalars : List ByteArray
 arrays : List ByteArray
 params : List (List Bool)
/-- The global names, arrays or none, in the order in which they were seen. -/
def namesF (st : NS) (k : Kinds) (arr : Bool) : List Thing → Option (List ByteArray)
 | [] => some []
 | t :: l => if decide (t.1 > 0) || specialF t.2 then namesF st k arr l else do
   let r ← rootN st t
   let rest ← namesF st k arr l
   some (if (kof r k == 2) == arr then t.2 :: rest else rest)
def parsF (st : NS) (k : Kinds) (i : Nat) : List ByteArray → Option (List Bool)
 | [] => some []
 | s :: l => do
  let r ← rootN st (i + 1, s)
  let rest ← parsF st k i l
  some ((kof r k == 2) :: rest)
def parsAll (st : NS) (k : Kinds) : Nat → List FuncP → Option (List (List Bool))
 | _, [] => some []
 | i, f :: l => do
  let x ← parsF st k i f.params
  let rest ← parsAll st k (i + 1) l
  some (x :: rest)
structure Told where
 info : InfoP
 re : Nat
 im : Nat
 e : Int
/-- The bounds within which a program is spoken of. -/
def smallB (g : ProgP) : Bool := decide (g.funcs.length ≤ 100000) && decide (g.rules.length ≤ 1000000) && g.funcs.all (fun f => decide (f.params.length ≤ 100000)) && g.rules.all (fun r => decide (r.pats.length ≤ 1000000))
def ns0 : NS := ⟨0, 0, 0, [], [], [], 0, 0, 0⟩
def infoF (st : NS) (k : Kinds) (g : ProgP) : Option InfoP := do
 let sc ← namesF st k false st.seen
 let ar ← namesF st k true st.seen
 let ps ← parsAll st k 0 g.funcs
 some ⟨sortB sc, sortB ar, ps⟩
def nRest (st : NS) (g : ProgP) : Option Told := if st.e ≠ 0 then some ⟨⟨[], [], []⟩, st.re, st.im, st.e⟩ else do
 let k ← kindsF st
 let x ← infoF st k g
 some ⟨x, 0, 0, 0⟩
def nArr (st : NS) : Option NS := if st.e = 0 then do
  let k ← kindsF st
  arraysF k st.uses st
 else some st
def nAll (fu : Nat) (g : ProgP) (st : NS) : Option NS := if st.e = 0 then do
  let st ← allR (nodeN g fu) g.rules st
  allF (nodeN g fu) 0 g.funcs st
 else some st
def nCheck (fu : Nat) (g : ProgP) : Option Told := if smallB g = false then none else do
 let st ← nAll fu g (headsA g 0 g.funcs ns0)
 if 100000 < st.uses.length ∨ 100000 < st.seen.length then none else do
  let st ← nArr st
  nRest st g
end Go.Proofs.YtkfillfkbhbbjaaGreatDoor
namespace Go.Proofs.YtkfillfkbhbbjaaGreatDoor
open Go.RowKit

theorem post_yes {s : ByteArray} {p : Nat} {st st' : PSt} {n : Node} (hsub : Hands s p st st' n 292) (hl : lval n = true) {t : Tok} (ht : nextF s st'.pos false = some t) (h9 : t.kind = 9) (ha : among ⟨#[43, 43, 32, 45, 45]⟩ t.text = true) :
  Hands s p st ⟨t.to, st'.opn, st'.ng⟩ (.mk 18 t.text 0 [n] (placeOf s t.fr).1 (placeOf s t.fr).2) 290 := by
 intro w h
 have g_p := h.p
 have HP0 := zh h; have HK0 := zh (Keeps.refl [p] w); have HS := zh hsub; have HL := zh hl; have HT := zh ht; have H9 := zh h9; have HA := zh ha
 clear h hsub hl ht h9 ha
 go_enter Tryz.func290, Tryz.ntmps290
 have l_p := h_lt HP0.out.row
 go_wp2_with fail
 refine calls_at (fun W => Keeps [] w W ∧ W.heap[w.heap.size]? = some (.cells #[.int .i64 0, .string ⟨#[]⟩, .float .f64 0, .slice none 0 0, .complex .f64 0 0] 50 (0, 0))) ⟨(by with_reducible repeat (first | exact k0 _ _ | refine kA ?_ _ | refine kD ?_ | refine kS ?_ (by simp) | refine kM ?_ (by simp))), (by simp only [hS, hA, hD, hM, World.size_setCell, World.size_drew, reduceIte, Option.map_some, Obj.put] <;> rfl)⟩ ?_
 rintro w1 ⟨Kw1, cw1_R⟩
 have ⟨n_p_R, n_R_p⟩ := zne l_p
 have o_R : w.heap.size ≤ w.heap.size := Nat.le_refl _
 have g_R : 14 < w.heap.size := Nat.lt_trans g_p l_p
 have HKw1 := zh (HK0.out.trans Kw1 (by simp))
 have HPw1 := zh (HP0.out.keep Kw1)
 have Rw1_R := zh cw1_R
 clear Kw1 cw1_R l_p HK0 HP0
 refine (HS.out _ HPw1.out).mono ?_
 rintro r e2 ⟨v, rfl, hn, hp, hk⟩
 have Re2_R := zh (hk.at Rw1_R.out (by simp [n_R_p]))
 have HKe2 := zh (HKw1.out.trans hk (by simp))
 have HPne2 := zh hp
 have ne2 := zh hn.seg
 have o_n : w.heap.size ≤ w1.heap.size := HKw1.out.size
 have ns_n_p : ¬ (Seg w1.heap.size e2.heap.size) (p) := fun h => Nat.not_lt_of_le h.1 (h_lt HPw1.out.row)
 have ns_n_R : ¬ (Seg w1.heap.size e2.heap.size) (w.heap.size) := fun h => Nat.not_lt_of_le h.1 (h_lt Rw1_R.out)
 have up_n : ∀ g, (Seg w1.heap.size e2.heap.size) g → g < e2.heap.size := fun _ h => h.2
 have dn_n : ∀ g, (Seg w1.heap.size e2.heap.size) g → w.heap.size ≤ g := fun _ h => Nat.le_trans o_n h.1
 obtain ⟨nt, nm, na, nl, nc, nr, ni, rfl, -, -⟩ := hn.shape
 clear hn hp
 clear hk Rw1_R HKw1 HPw1
 have l_p := h_lt HPne2.out.row
 have l_R := h_lt Re2_R.out
 go_wp2_with fail
 refine calls_at (fun W => Keeps [] e2 W ∧ W.heap[e2.heap.size]? = some (.cells #[.int .i64 n.kind, .string nt, .float .f64 nm, .slice na nl nc, .complex .f64 nr ni] 50 (0, 0))) ⟨(by with_reducible repeat (first | exact k0 _ _ | refine kA ?_ _ | refine kD ?_ | refine kS ?_ (by simp) | refine kM ?_ (by simp))), (by simp only [hS, hA, hD, hM, World.size_setCell, World.size_drew, reduceIte, Option.map_some, Obj.put] <;> rfl)⟩ ?_
 rintro w3 ⟨Kw3, cw3_B⟩
 have ⟨n_p_B, n_B_p⟩ := zne l_p
 have ⟨n_R_B, n_B_R⟩ := zne l_R
 have o_B : w.heap.size ≤ e2.heap.size := HKe2.out.size
 have g_B : 14 < e2.heap.size := Nat.lt_trans g_p l_p
 have ns_n_B : ¬ (Seg w1.heap.size e2.heap.size) (e2.heap.size) := fun h => Nat.not_lt_of_le ((Nat.le_refl e2.heap.size)) (up_n _ h)
 have Rw3_R := zh (Kw3.at Re2_R.out (by simp))
 have HKw3 := zh (HKe2.out.trans Kw3 (by simp))
 have HPw3 := zh (HPne2.out.keep Kw3)
 have nw3 := zh (ne2.out.kp Kw3 (by simp))
 have us_nw3 := Nat.le_trans (Nat.le_refl e2.heap.size) Kw3.size
 have Rw3_B := zh cw3_B
 clear Kw3 cw3_B l_p l_R Re2_R HKe2 HPne2 ne2
 refine (ok_any HPw3.out).mono ?_
 rintro r w' ⟨rfl, hw'⟩
 rw [hw']
 clear hw'
 have l_p := h_lt HPw3.out.row
 have l_R := h_lt Rw3_R.out
 obtain ⟨l_B, xB_0, xB_1, xB_2, xB_3, xB_4, yB_0, yB_1, yB_2, yB_3, yB_4⟩ := cf5 Rw3_B.out
 go_wp2_with fail
 clear l_p l_R l_B xB_0 xB_1 xB_2 xB_3 xB_4 yB_0 yB_1 yB_2 yB_3 yB_4
 refine (lvalue_any nw3.out).mono ?_
 rintro r e4 ⟨rfl, hk⟩
 have Re4_R := zh (hk.at Rw3_R.out (by simp))
 have Re4_B := zh (hk.at Rw3_B.out (by simp))
 have HKe4 := zh (HKw3.out.trans hk (by simp))
 have HPe4 := zh (HPw3.out.keep hk)
 have ne4 := zh (nw3.out.kp hk (by simp))
 have us_ne4 := Nat.le_trans us_nw3 hk.size
 clear hk Rw3_R Rw3_B HKw3 HPw3 nw3 us_nw3
 have l_p := h_lt HPe4.out.row
 have l_R := h_lt Re4_R.out
 have l_B := h_lt Re4_B.out
 rw [HL.out]
 go_wp2_with fail
 clear l_p l_R l_B
 refine (one_yes HPe4.out HT.out ⟨#[43, 43, 32, 45, 45]⟩ (by decide) H9.out HA.out).mono ?_
 rintro r e5 ⟨rfl, hp, hk⟩
 have Re5_R := zh (hk.at Re4_R.out (by simp [n_R_p]))
 have Re5_B := zh (hk.at Re4_B.out (by simp [n_B_p]))
 have HKe5 := zh (HKe4.out.trans hk (by simp))
 have ne5 := zh (ne4.out.kp hk (by simp [ns_n_p]))
 have us_ne5 := Nat.le_trans us_ne4 hk.size
 have HPne5 := zh hp
 clear hp
 clear hk Re4_R Re4_B HKe4 ne4 us_ne4 HPe4
 have l_p := h_lt HPne5.out.row
 obtain ⟨l_R, xR_0, xR_1, xR_2, xR_3, xR_4, yR_0, yR_1, yR_2, yR_3, yR_4⟩ := cf5 Re5_R.out
 obtain ⟨l_B, xB_0, xB_1, xB_2, xB_3, xB_4, yB_0, yB_1, yB_2, yB_3, yB_4⟩ := cf5 Re5_B.out
 go_wp2_with fail
 refine ret_at (v := .agg #[.int .i64 18, .string t.text, .float .f64 0, .slice (some ⟨e5.heap.size, 0, none⟩) 1 1, .complex .f64 (placeOf s t.fr).1 (placeOf s t.fr).2]) (fun W => Keeps [w.heap.size] e5 W ∧ W.heap[w.heap.size]? = some (.cells #[.int .i64 18, .string t.text, .float .f64 0, .slice (some ⟨e5.heap.size, 0, none⟩) 1 1, .complex .f64 (placeOf s t.fr).1 (placeOf s t.fr).2] 50 (0, 0)) ∧ W.heap[e5.heap.size]? = some (.cells #[.int .i64 n.kind, .string nt, .float .f64 nm, .slice na nl nc, .complex .f64 nr ni] 50 (0, 0))) ⟨(by with_reducible repeat (first | exact k0 _ _ | refine kA ?_ _ | refine kD ?_ | refine kS ?_ (by simp) | refine kM ?_ (by simp))), (by simp only [hS, hA, hD, hM, World.size_setCell, World.size_drew, reduceIte, Option.map_some, Obj.put, Re5_R.out, Nat.ne_of_lt l_R, Nat.ne_of_gt l_R] <;> rfl), (by simp only [hS, hA, hD, hM, World.size_setCell, World.size_drew, reduceIte, Option.map_some, Obj.put, Re5_R.out, Nat.ne_of_lt l_R, Nat.ne_of_gt l_R] <;> rfl)⟩ (fun w6 hW => ?_) rfl (fun w6 hW => ?_)
 ·obtain ⟨Kw6, cw6_R, cw6_G⟩ := hW
  have q0 := cell_of_heap cw6_R 0
  have q1 := cell_of_heap cw6_R 1
  have q2 := cell_of_heap cw6_R 2
  have q3 := cell_of_heap cw6_R 3
  have q4 := cell_of_heap cw6_R 4
  simp at q0 q1 q2 q3 q4
  simp [results, Tryz.results290, go_sem, q0, q1, q2, q3, q4]
 ·obtain ⟨Kw6, cw6_R, cw6_G⟩ := hW
  have ⟨n_p_G, n_G_p⟩ := zne l_p
  have ⟨n_R_G, n_G_R⟩ := zne l_R
  have ⟨n_B_G, n_G_B⟩ := zne l_B
  have o_G : w.heap.size ≤ e5.heap.size := HKe5.out.size
  have g_G : 14 < e5.heap.size := Nat.lt_trans g_p l_p
  have ns_n_G : ¬ (Seg w1.heap.size e2.heap.size) (e5.heap.size) := fun h => Nat.not_lt_of_le (us_ne5) (up_n _ h)
  have Rw6_B := zh (Kw6.at Re5_B.out (by simp [n_B_R]))
  have HKw6 := zh (HKe5.out.trans Kw6 (by simp [o_R]))
  have HPw6 := zh (HPne5.out.keepN Kw6 (by simp [n_p_R]) (by simp [g_R]))
  have nw6 := zh (ne5.out.kp Kw6 (by simp [ns_n_R]))
  have us_nw6 := Nat.le_trans us_ne5 Kw6.size
  have Rw6_R := zh cw6_R
  have Rw6_G := zh cw6_G
  clear Kw6 cw6_R cw6_G l_p l_R xR_0 xR_1 xR_2 xR_3 xR_4 yR_0 yR_1 yR_2 yR_3 yR_4 l_B xB_0 xB_1 xB_2 xB_3 xB_4 yB_0 yB_1 yB_2 yB_3 yB_4 Re5_B HKe5 HPne5 ne5 us_ne5 Re5_R
  exact ⟨_, rfl, .mk (.some (Nat.le_of_lt_succ (Nat.lt_succ_of_le o_G)) (h_lt Rw6_G.out) (row1 nw6.out dn_n Rw6_G.out)), HPw6.out, HKw6.out⟩
end Go.Proofs.YtkfillfkbhbbjaaGreatDoor
