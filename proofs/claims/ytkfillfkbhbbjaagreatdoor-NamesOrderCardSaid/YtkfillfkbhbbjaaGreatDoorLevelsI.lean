/- LevelsE, LevelsF, LevelsG, LevelsH, LevelsI. -/
import Derived.Test.YtkfillfkbhbbjaaGreatDoorNSpec
set_option maxRecDepth 100000
set_option maxHeartbeats 4000000
set_option linter.unusedSimpArgs false
set_option linter.unusedVariables false
namespace Go.Proofs.YtkfillfkbhbbjaaGreatDoor
open Go.RowKit
theorem post_yes {s : ByteArray} {p : Nat} {st st' : PSt} {n : Node} (hsub : Hands s p st st' n 292) (hl : lval n = true) {t : Tok} (ht : nextF s st'.pos false = some t) (h9 : t.kind = 9) (ha : among ⟨#[43, 43, 32, 45, 45]⟩ t.text = true) : Hands s p st ⟨t.to, st'.opn, st'.ng⟩ (.mk 18 t.text 0 [n] (placeOf s t.fr).1 (placeOf s t.fr).2) 290 := by
 intro w h;have g_p := h.p;have HP0 := zh h; have HK0 := zh (Keeps.refl [p] w); have HS := zh hsub; have HL := zh hl; have HT := zh ht; have H9 := zh h9; have HA := zh ha;clear h hsub hl ht h9 ha
 go_enter Tryz.func290, Tryz.ntmps290
 have l_p := h_lt HP0.out.row
 go_wp2_with fail
 refine qrb ?_;rintro w1 ⟨Kw1, cw1_R⟩;have ⟨n_p_R, n_R_p⟩ := zne l_p;have o_R : w.heap.size ≤ w.heap.size := Nat.le_refl _;have g_R : 14 < w.heap.size := Nat.lt_trans g_p l_p;have HKw1 := zh (HK0.out.trans Kw1 jg);have HPw1 := zh (HP0.out.keep Kw1);have Rw1_R := zh cw1_R;clear Kw1 cw1_R l_p HK0 HP0;refine (HS.out _ HPw1.out).mono ?_;rintro r e2 ⟨v, rfl, hn, hp, hk⟩;have Re2_R := zh (hk.at Rw1_R.out jk);have HKe2 := zh (HKw1.out.trans hk jg);have HPne2 := zh hp;have ne2 := zh hn.seg;have o_n : w.heap.size ≤ w1.heap.size := HKw1.out.size;have ns_n_p : ¬ (Seg w1.heap.size e2.heap.size) (p) := fun h => Nat.not_lt_of_le h.1 (h_lt HPw1.out.row)
 have ns_n_R : ¬ (Seg w1.heap.size e2.heap.size) (w.heap.size) := fun h => Nat.not_lt_of_le h.1 (h_lt Rw1_R.out)
 have up_n : ∀ g, (Seg w1.heap.size e2.heap.size) g → g < e2.heap.size := fun _ h => h.2
 have dn_n : ∀ g, (Seg w1.heap.size e2.heap.size) g → w.heap.size ≤ g := fun _ h => Nat.le_trans o_n h.1
 obtain ⟨nt, nm, na, nl, nc, nr, ni, rfl, -, -⟩ := hn.shape;clear hn hp;clear hk Rw1_R HKw1 HPw1;have l_p := h_lt HPne2.out.row;have l_R := h_lt Re2_R.out
 go_wp2_with fail
 refine zsb ?_;rintro w3 ⟨Kw3, cw3_B⟩;have ⟨n_p_B, n_B_p⟩ := zne l_p;have ⟨n_R_B, n_B_R⟩ := zne l_R;have o_B : w.heap.size ≤ e2.heap.size := HKe2.out.size;have g_B : 14 < e2.heap.size := Nat.lt_trans g_p l_p;have ns_n_B : ¬ (Seg w1.heap.size e2.heap.size) (e2.heap.size) := fun h => Nat.not_lt_of_le ((Nat.le_refl e2.heap.size)) (up_n _ h)
 have Rw3_R := zh (Kw3.at Re2_R.out jg);have HKw3 := zh (HKe2.out.trans Kw3 jg);have HPw3 := zh (HPne2.out.keep Kw3);have nw3 := zh (ne2.out.kp Kw3 jg);have us_nw3 := Nat.le_trans (Nat.le_refl e2.heap.size) Kw3.size;have Rw3_B := zh cw3_B;clear Kw3 cw3_B l_p l_R Re2_R HKe2 HPne2 ne2;refine (ok_any HPw3.out).mono ?_;rintro r w' ⟨rfl, hw'⟩;rw [hw'];clear hw';have l_p := h_lt HPw3.out.row;have l_R := h_lt Rw3_R.out;obtain ⟨l_B, xB_0, xB_1, xB_2, xB_3, xB_4, yB_0, yB_1, yB_2, yB_3, yB_4⟩ := cf5 Rw3_B.out
 go_wp2_with fail
 clear l_p l_R l_B xB_0 xB_1 xB_2 xB_3 xB_4 yB_0 yB_1 yB_2 yB_3 yB_4;refine (lvalue_any nw3.out).mono ?_;rintro r e4 ⟨rfl, hk⟩;have Re4_R := zh (hk.at Rw3_R.out jg);have Re4_B := zh (hk.at Rw3_B.out jg);have HKe4 := zh (HKw3.out.trans hk jg);have HPe4 := zh (HPw3.out.keep hk);have ne4 := zh (nw3.out.kp hk jg);have us_ne4 := Nat.le_trans us_nw3 hk.size;clear hk Rw3_R Rw3_B HKw3 HPw3 nw3 us_nw3;have l_p := h_lt HPe4.out.row;have l_R := h_lt Re4_R.out;have l_B := h_lt Re4_B.out;rw [HL.out]
 go_wp2_with fail
 clear l_p l_R l_B;refine (one_yes HPe4.out HT.out ⟨#[43, 43, 32, 45, 45]⟩ zi H9.out HA.out).mono ?_;rintro r e5 ⟨rfl, hp, hk⟩;have Re5_R := zh (hk.at Re4_R.out jk);have Re5_B := zh (hk.at Re4_B.out zr);have HKe5 := zh (HKe4.out.trans hk jg);have ne5 := zh (ne4.out.kp hk qz);have us_ne5 := Nat.le_trans us_ne4 hk.size;have HPne5 := zh hp;clear hp;clear hk Re4_R Re4_B HKe4 ne4 us_ne4 HPe4;have l_p := h_lt HPne5.out.row;obtain ⟨l_R, xR_0, xR_1, xR_2, xR_3, xR_4, yR_0, yR_1, yR_2, yR_3, yR_4⟩ := cf5 Re5_R.out;obtain ⟨l_B, xB_0, xB_1, xB_2, xB_3, xB_4, yB_0, yB_1, yB_2, yB_3, yB_4⟩ := cf5 Re5_B.out
 go_wp2_with fail
 refine ret_at (v := .agg #[.int .i64 18, .string t.text, .float .f64 0, .slice (some ⟨e5.heap.size, 0, none⟩) 1 1, .complex .f64 (placeOf s t.fr).1 (placeOf s t.fr).2]) (fun W => Keeps [w.heap.size] e5 W ∧ W.heap[w.heap.size]? = some (.cells #[.int .i64 18, .string t.text, .float .f64 0, .slice (some ⟨e5.heap.size, 0, none⟩) 1 1, .complex .f64 (placeOf s t.fr).1 (placeOf s t.fr).2] 50 (0, 0)) ∧ W.heap[e5.heap.size]? = some (.cells #[.int .i64 n.kind, .string nt, .float .f64 nm, .slice na nl nc, .complex .f64 nr ni] 50 (0, 0))) ⟨zg, (jb Re5_R.out l_R), (jb Re5_R.out l_R)⟩ (fun w6 hW => ?_) rfl (fun w6 hW => ?_)
 ·obtain ⟨Kw6, cw6_R, cw6_G⟩ := hW;have q0 := cell_of_heap cw6_R 0;have q1 := cell_of_heap cw6_R 1;have q2 := cell_of_heap cw6_R 2;have q3 := cell_of_heap cw6_R 3;have q4 := cell_of_heap cw6_R 4;simp at q0 q1 q2 q3 q4;exact jsb
 obtain ⟨Kw6, cw6_R, cw6_G⟩ := hW;have ⟨n_p_G, n_G_p⟩ := zne l_p;have ⟨n_R_G, n_G_R⟩ := zne l_R;have ⟨n_B_G, n_G_B⟩ := zne l_B;have o_G : w.heap.size ≤ e5.heap.size := HKe5.out.size;have g_G : 14 < e5.heap.size := Nat.lt_trans g_p l_p;have ns_n_G : ¬ (Seg w1.heap.size e2.heap.size) (e5.heap.size) := fun h => Nat.not_lt_of_le (us_ne5) (up_n _ h)
 have Rw6_B := zh (Kw6.at Re5_B.out jx);have HKw6 := zh (HKe5.out.trans Kw6 zp);have HPw6 := zh (HPne5.out.keepN Kw6 jr zt);have nw6 := zh (ne5.out.kp Kw6 jw);have us_nw6 := Nat.le_trans us_ne5 Kw6.size;have Rw6_R := zh cw6_R;have Rw6_G := zh cw6_G;clear Kw6 cw6_R cw6_G l_p l_R xR_0 xR_1 xR_2 xR_3 xR_4 yR_0 yR_1 yR_2 yR_3 yR_4 l_B xB_0 xB_1 xB_2 xB_3 xB_4 yB_0 yB_1 yB_2 yB_3 yB_4 Re5_B HKe5 HPne5 ne5 us_ne5 Re5_R;exact ⟨_, rfl, .mk (.some (Nat.le_of_lt_succ (Nat.lt_succ_of_le o_G)) (h_lt Rw6_G.out) (row1 nw6.out dn_n Rw6_G.out)), HPw6.out, HKw6.out⟩
theorem expr_yes {s : ByteArray} {p : Nat} {st st' st2 : PSt} {n m : Node} (hsub : Hands s p st st' n 130) (hl : lval n = true) {t : Tok} (ht : nextF s st'.pos false = some t) (h9 : t.kind = 9) (ha : among ⟨#[61, 32, 43, 61, 32, 45, 61, 32, 42, 61, 32, 47, 61, 32, 37, 61, 32, 94, 61]⟩ t.text = true) (hr : Hands s p ⟨t.to, st'.opn, st'.ng⟩ st2 m 109) : Hands s p st st2 (.mk 7 t.text 0 [n, m] (placeOf s t.fr).1 (placeOf s t.fr).2) 109 := by
 intro w h;have g_p := h.p;have HP0 := zh h; have HK0 := zh (Keeps.refl [p] w); have HS := zh hsub; have HL := zh hl; have HT := zh ht; have H9 := zh h9; have HA := zh ha; have HR := zh hr;clear h hsub hl ht h9 ha hr
 go_enter Tryz.func109, Tryz.ntmps109
 have l_p := h_lt HP0.out.row
 go_wp2_with fail
 refine qrb ?_;rintro w1 ⟨Kw1, cw1_R⟩;have ⟨n_p_R, n_R_p⟩ := zne l_p;have o_R : w.heap.size ≤ w.heap.size := Nat.le_refl _;have g_R : 14 < w.heap.size := Nat.lt_trans g_p l_p;have HKw1 := zh (HK0.out.trans Kw1 jg);have HPw1 := zh (HP0.out.keep Kw1);have Rw1_R := zh cw1_R;clear Kw1 cw1_R l_p HK0 HP0;refine (HS.out _ HPw1.out).mono ?_;rintro r e2 ⟨v, rfl, hn, hp, hk⟩;have Re2_R := zh (hk.at Rw1_R.out jk);have HKe2 := zh (HKw1.out.trans hk jg);have HPne2 := zh hp;have ne2 := zh hn.seg;have o_n : w.heap.size ≤ w1.heap.size := HKw1.out.size;have ns_n_p : ¬ (Seg w1.heap.size e2.heap.size) (p) := fun h => Nat.not_lt_of_le h.1 (h_lt HPw1.out.row)
 have ns_n_R : ¬ (Seg w1.heap.size e2.heap.size) (w.heap.size) := fun h => Nat.not_lt_of_le h.1 (h_lt Rw1_R.out)
 have up_n : ∀ g, (Seg w1.heap.size e2.heap.size) g → g < e2.heap.size := fun _ h => h.2
 have dn_n : ∀ g, (Seg w1.heap.size e2.heap.size) g → w.heap.size ≤ g := fun _ h => Nat.le_trans o_n h.1
 obtain ⟨nt, nm, na, nl, nc, nr, ni, rfl, -, -⟩ := hn.shape;clear hn hp;clear hk Rw1_R HKw1 HPw1;have l_p := h_lt HPne2.out.row;have l_R := h_lt Re2_R.out
 go_wp2_with fail
 refine zsb ?_;rintro w3 ⟨Kw3, cw3_B⟩;have ⟨n_p_B, n_B_p⟩ := zne l_p;have ⟨n_R_B, n_B_R⟩ := zne l_R;have o_B : w.heap.size ≤ e2.heap.size := HKe2.out.size;have g_B : 14 < e2.heap.size := Nat.lt_trans g_p l_p;have ns_n_B : ¬ (Seg w1.heap.size e2.heap.size) (e2.heap.size) := fun h => Nat.not_lt_of_le ((Nat.le_refl e2.heap.size)) (up_n _ h)
 have Rw3_R := zh (Kw3.at Re2_R.out jg);have HKw3 := zh (HKe2.out.trans Kw3 jg);have HPw3 := zh (HPne2.out.keep Kw3);have nw3 := zh (ne2.out.kp Kw3 jg);have us_nw3 := Nat.le_trans (Nat.le_refl e2.heap.size) Kw3.size;have Rw3_B := zh cw3_B;clear Kw3 cw3_B l_p l_R Re2_R HKe2 HPne2 ne2;refine (ok_any HPw3.out).mono ?_;rintro r w' ⟨rfl, hw'⟩;rw [hw'];clear hw';have l_p := h_lt HPw3.out.row;have l_R := h_lt Rw3_R.out;obtain ⟨l_B, xB_0, xB_1, xB_2, xB_3, xB_4, yB_0, yB_1, yB_2, yB_3, yB_4⟩ := cf5 Rw3_B.out
 go_wp2_with fail
 clear l_p l_R l_B xB_0 xB_1 xB_2 xB_3 xB_4 yB_0 yB_1 yB_2 yB_3 yB_4;refine (lvalue_any nw3.out).mono ?_;rintro r e4 ⟨rfl, hk⟩;have Re4_R := zh (hk.at Rw3_R.out jg);have Re4_B := zh (hk.at Rw3_B.out jg);have HKe4 := zh (HKw3.out.trans hk jg);have HPe4 := zh (HPw3.out.keep hk);have ne4 := zh (nw3.out.kp hk jg);have us_ne4 := Nat.le_trans us_nw3 hk.size;clear hk Rw3_R Rw3_B HKw3 HPw3 nw3 us_nw3;have l_p := h_lt HPe4.out.row;have l_R := h_lt Re4_R.out;have l_B := h_lt Re4_B.out;rw [HL.out]
 go_wp2_with fail
 clear l_p l_R l_B;refine (one_yes HPe4.out HT.out ⟨#[61, 32, 43, 61, 32, 45, 61, 32, 42, 61, 32, 47, 61, 32, 37, 61, 32, 94, 61]⟩ zi H9.out HA.out).mono ?_;rintro r e5 ⟨rfl, hp, hk⟩;have Re5_R := zh (hk.at Re4_R.out jk);have Re5_B := zh (hk.at Re4_B.out zr);have HKe5 := zh (HKe4.out.trans hk jg);have ne5 := zh (ne4.out.kp hk qz);have us_ne5 := Nat.le_trans us_ne4 hk.size;have HPne5 := zh hp;clear hp;clear hk Re4_R Re4_B HKe4 ne4 us_ne4 HPe4;have l_p := h_lt HPne5.out.row;obtain ⟨l_R, xR_0, xR_1, xR_2, xR_3, xR_4, yR_0, yR_1, yR_2, yR_3, yR_4⟩ := cf5 Re5_R.out;obtain ⟨l_B, xB_0, xB_1, xB_2, xB_3, xB_4, yB_0, yB_1, yB_2, yB_3, yB_4⟩ := cf5 Re5_B.out
 go_upto_region 7 with fail
 have HCm := zh (hands_at HR.out HPne5.out)
 go_upto_region 7 with fail
 go_cut [] (fun W => ∃ (u_ : World) (mt : ByteArray) (mm : Nat) (ma : Option Addr) (ml mc mr mi : Nat), NodeR u_ (Seg e5.heap.size u_.heap.size) m (.agg #[.int .i64 m.kind, .string mt, .float .f64 mm, .slice ma ml mc, .complex .f64 mr mi]) ∧ PP s p ⟨st2.pos, st2.opn, st2.ng⟩ u_ ∧ Keeps [p] e5 u_ ∧ Keeps [w.heap.size] u_ W ∧ W.heap[w.heap.size]? = some (.cells #[.int .i64 7, .string t.text, .float .f64 0, .slice (some ⟨u_.heap.size, 0, none⟩) 2 2, .complex .f64 (placeOf s t.fr).1 (placeOf s t.fr).2] 50 (0, 0)) ∧ W.heap[u_.heap.size]? = some (.cells #[.int .i64 n.kind, .string nt, .float .f64 nm, .slice na nl nc, .complex .f64 nr ni, .int .i64 m.kind, .string mt, .float .f64 mm, .slice ma ml mc, .complex .f64 mr mi] 50 (0, 0)))
 case first =>
  go_region_law ((refine step_call (f := 109) (vals := #[.pointer (some ⟨p, 0, none⟩)]) rfl _ rfl jh (HCm.out _ zg) ?_; rintro v u_ ⟨hn, hp, hk⟩; obtain ⟨mt, mm, ma, ml, mc, mr, mi, rfl, -, -⟩ := hn.shape; have r_R := hk.at Re5_R.out jk; have l_R := h_lt r_R; have zR_0 := cell_of_heap r_R 0; have zfR_0 := frozen_of_heap r_R 0; have zR_1 := cell_of_heap r_R 1; have zfR_1 := frozen_of_heap r_R 1; have zR_2 := cell_of_heap r_R 2; have zfR_2 := frozen_of_heap r_R 2; have zR_3 := cell_of_heap r_R 3; have zfR_3 := frozen_of_heap r_R 3; have zR_4 := cell_of_heap r_R 4; have zfR_4 := frozen_of_heap r_R 4; simp at zR_0 zR_1 zR_2 zR_3 zR_4; have r_B := hk.at Re5_B.out zr; have l_B := h_lt r_B; have zB_0 := cell_of_heap r_B 0; have zfB_0 := frozen_of_heap r_B 0; have zB_1 := cell_of_heap r_B 1; have zfB_1 := frozen_of_heap r_B 1; have zB_2 := cell_of_heap r_B 2; have zfB_2 := frozen_of_heap r_B 2; have zB_3 := cell_of_heap r_B 3; have zfB_3 := frozen_of_heap r_B 3; have zB_4 := cell_of_heap r_B 4; have zfB_4 := frozen_of_heap r_B 4; simp at zB_0 zB_1 zB_2 zB_3 zB_4))
  all_goals
   go_wp2_with fail
   go_meet
   case rel => exact ⟨u_, mt, mm, ma, ml, mc, mr, mi, hn, hp, hk, zg, (jb r_R l_R), (jb r_R l_R)⟩
 clear l_p l_R xR_0 xR_1 xR_2 xR_3 xR_4 yR_0 yR_1 yR_2 yR_3 yR_4 l_B xB_0 xB_1 xB_2 xB_3 xB_4 yB_0 yB_1 yB_2 yB_3 yB_4;obtain ⟨e6, mt, mm, ma, ml, mc, mr, mi, hn, hp, hk, Kw7, cc_R, cc_G⟩ := hcut;have Re6_R := zh (hk.at Re5_R.out jk);have Re6_B := zh (hk.at Re5_B.out zr);have HKe6 := zh (HKe5.out.trans hk jg);have ne6 := zh (ne5.out.kp hk qz);have us_ne6 := Nat.le_trans us_ne5 hk.size;have HPne6 := zh hp;have me6 := zh hn;have o_m : w.heap.size ≤ e5.heap.size := HKe5.out.size;have ns_m_p : ¬ (Seg e5.heap.size e6.heap.size) (p) := fun h => Nat.not_lt_of_le h.1 (h_lt HPne5.out.row)
 have ns_m_R : ¬ (Seg e5.heap.size e6.heap.size) (w.heap.size) := fun h => Nat.not_lt_of_le h.1 (h_lt Re5_R.out)
 have ns_m_B : ¬ (Seg e5.heap.size e6.heap.size) (e2.heap.size) := fun h => Nat.not_lt_of_le h.1 (h_lt Re5_B.out)
 have up_m : ∀ g, (Seg e5.heap.size e6.heap.size) g → g < e6.heap.size := fun _ h => h.2
 have dn_m : ∀ g, (Seg e5.heap.size e6.heap.size) g → w.heap.size ≤ g := fun _ h => Nat.le_trans o_m h.1
 clear hn hp;clear hk Re5_R Re5_B HKe5 ne5 us_ne5 HPne5;have l_p := h_lt HPne6.out.row;have l_R := h_lt Re6_R.out;have l_B := h_lt Re6_B.out;generalize wc = w7 at *
 have cw7_R := cc_R;clear cc_R;have cw7_G := cc_G;clear cc_G;have ⟨n_p_G, n_G_p⟩ := zne l_p;have ⟨n_R_G, n_G_R⟩ := zne l_R;have ⟨n_B_G, n_G_B⟩ := zne l_B;have o_G : w.heap.size ≤ e6.heap.size := HKe6.out.size;have g_G : 14 < e6.heap.size := Nat.lt_trans g_p l_p;have ns_n_G : ¬ (Seg w1.heap.size e2.heap.size) (e6.heap.size) := fun h => Nat.not_lt_of_le (us_ne6) (up_n _ h)
 have ns_m_G : ¬ (Seg e5.heap.size e6.heap.size) (e6.heap.size) := fun h => Nat.not_lt_of_le ((Nat.le_refl e6.heap.size)) (up_m _ h)
 have Rw7_B := zh (Kw7.at Re6_B.out jx);have HKw7 := zh (HKe6.out.trans Kw7 zp);have HPw7 := zh (HPne6.out.keepN Kw7 jr zt);have nw7 := zh (ne6.out.kp Kw7 jw);have us_nw7 := Nat.le_trans us_ne6 Kw7.size;have mw7 := zh (me6.out.kp Kw7 (by simp [ns_m_R]));have us_mw7 := Nat.le_trans (Nat.le_refl e6.heap.size) Kw7.size;have Rw7_R := zh cw7_R;have Rw7_G := zh cw7_G;clear Kw7 cw7_R cw7_G l_p l_R l_B Re6_B HKe6 HPne6 ne6 us_ne6 me6 Re6_R;have l_p := h_lt HPw7.out.row;obtain ⟨l_R, xR_0, xR_1, xR_2, xR_3, xR_4, yR_0, yR_1, yR_2, yR_3, yR_4⟩ := cf5 Rw7_R.out;have l_B := h_lt Rw7_B.out;have l_G := h_lt Rw7_G.out
 go_wp2_with fail
 refine ret_at (v := .agg #[.int .i64 7, .string t.text, .float .f64 0, .slice (some ⟨e6.heap.size, 0, none⟩) 2 2, .complex .f64 (placeOf s t.fr).1 (placeOf s t.fr).2]) (fun W => Keeps [] w7 W) zg (fun w8 hW => ?_) rfl (fun w8 hW => ?_)
 ·have Kw8 : Keeps [] w7 w8 := hW;have q0 := cell_of_heap (Kw8.at Rw7_R.out jg) 0;have q1 := cell_of_heap (Kw8.at Rw7_R.out jg) 1;have q2 := cell_of_heap (Kw8.at Rw7_R.out jg) 2;have q3 := cell_of_heap (Kw8.at Rw7_R.out jg) 3;have q4 := cell_of_heap (Kw8.at Rw7_R.out jg) 4;simp at q0 q1 q2 q3 q4;exact jsb
 have Kw8 : Keeps [] w7 w8 := hW;have Rw8_R := zh (Kw8.at Rw7_R.out jg);have Rw8_B := zh (Kw8.at Rw7_B.out jg);have Rw8_G := zh (Kw8.at Rw7_G.out jg);have HKw8 := zh (HKw7.out.trans Kw8 jg);have HPw8 := zh (HPw7.out.keep Kw8);have nw8 := zh (nw7.out.kp Kw8 jg);have us_nw8 := Nat.le_trans us_nw7 Kw8.size;have mw8 := zh (mw7.out.kp Kw8 jg);have us_mw8 := Nat.le_trans us_mw7 Kw8.size;clear Kw8 l_p l_R xR_0 xR_1 xR_2 xR_3 xR_4 yR_0 yR_1 yR_2 yR_3 yR_4 l_B l_G Rw7_R Rw7_B Rw7_G HKw7 HPw7 nw7 us_nw7 mw7 us_mw7;exact ⟨_, rfl, .mk (.some (S := fun g => w.heap.size ≤ g) o_G (h_lt Rw8_G.out) (row2 nw8.out dn_n mw8.out dn_m Rw8_G.out)), HPw8.out, HKw8.out⟩
theorem goes_k2 {s : ByteArray} {p : Nat} {st : PSt} {w : World} (h : PP s p st w) {kd : Int} {tx : ByteArray} {nm fr te : Nat} (ht : nextF s st.pos false = some ⟨2, tx, nm, fr, te⟩)  : Calls Tryz.prog 274 #[.pointer (some ⟨p, 0, none⟩)] w fun r w' => r = .returned (.bool true) ∧ Keeps [] w w' := by
 have g_p := h.p;have HP0 := zh h; have HK0 := zh (Keeps.refl [] w); have HT := zh ht;clear h ht
 go_enter Tryz.func274, Tryz.ntmps274
 have l_p := h_lt HP0.out.row
 go_wp2_with fail
 clear l_p;refine qmb ?_;rintro r w' ⟨rfl, hw'⟩;rw [hw'];clear hw';obtain ⟨l_p, xp_0, xp_1, xp_2, xp_3, xp_4, xp_5, yp_0, yp_1, yp_2, yp_3, yp_4, yp_5⟩ := cf6 HP0.out.row
 go_wp2_with fail
 clear l_p xp_0 xp_1 xp_2 xp_3 xp_4 xp_5 yp_0 yp_1 yp_2 yp_3 yp_4 yp_5;refine qsb ?_;rintro r e1 ⟨rfl, hk⟩;have HKe1 := zh (HK0.out.trans hk jg);have HPe1 := zh (HP0.out.keep hk);clear hk HK0 HP0;have l_p := h_lt HPe1.out.row
 go_wp2_with fail
 refine ret_at (v := .bool true) (fun W => Keeps [] e1 W ∧ W.heap[e1.heap.size]? = some (.cells #[.int .i64 2, .string tx, .float .f64 nm, .int .i64 fr, .int .i64 te] 90 (0, 0))) ⟨zg, zb⟩ (fun w2 hW => ?_) rfl (fun w2 hW => ?_)
 ·obtain ⟨Kw2, cw2_T⟩ := hW;exact jnb
 obtain ⟨Kw2, cw2_T⟩ := hW;exact qhd
theorem goes_k3 {s : ByteArray} {p : Nat} {st : PSt} {w : World} (h : PP s p st w) {kd : Int} {tx : ByteArray} {nm fr te : Nat} (ht : nextF s st.pos false = some ⟨3, tx, nm, fr, te⟩)  : Calls Tryz.prog 274 #[.pointer (some ⟨p, 0, none⟩)] w fun r w' => r = .returned (.bool true) ∧ Keeps [] w w' := by
 have g_p := h.p;have HP0 := zh h; have HK0 := zh (Keeps.refl [] w); have HT := zh ht;clear h ht
 go_enter Tryz.func274, Tryz.ntmps274
 have l_p := h_lt HP0.out.row
 go_wp2_with fail
 clear l_p;refine qmb ?_;rintro r w' ⟨rfl, hw'⟩;rw [hw'];clear hw';obtain ⟨l_p, xp_0, xp_1, xp_2, xp_3, xp_4, xp_5, yp_0, yp_1, yp_2, yp_3, yp_4, yp_5⟩ := cf6 HP0.out.row
 go_wp2_with fail
 clear l_p xp_0 xp_1 xp_2 xp_3 xp_4 xp_5 yp_0 yp_1 yp_2 yp_3 yp_4 yp_5;refine qsb ?_;rintro r e1 ⟨rfl, hk⟩;have HKe1 := zh (HK0.out.trans hk jg);have HPe1 := zh (HP0.out.keep hk);clear hk HK0 HP0;have l_p := h_lt HPe1.out.row
 go_wp2_with fail
 refine ret_at (v := .bool true) (fun W => Keeps [] e1 W ∧ W.heap[e1.heap.size]? = some (.cells #[.int .i64 3, .string tx, .float .f64 nm, .int .i64 fr, .int .i64 te] 90 (0, 0))) ⟨zg, zb⟩ (fun w2 hW => ?_) rfl (fun w2 hW => ?_)
 ·obtain ⟨Kw2, cw2_T⟩ := hW;exact jnb
 obtain ⟨Kw2, cw2_T⟩ := hW;exact qhd
theorem goes_k5 {s : ByteArray} {p : Nat} {st : PSt} {w : World} (h : PP s p st w) {kd : Int} {tx : ByteArray} {nm fr te : Nat} (ht : nextF s st.pos false = some ⟨5, tx, nm, fr, te⟩)  : Calls Tryz.prog 274 #[.pointer (some ⟨p, 0, none⟩)] w fun r w' => r = .returned (.bool true) ∧ Keeps [] w w' := by
 have g_p := h.p;have HP0 := zh h; have HK0 := zh (Keeps.refl [] w); have HT := zh ht;clear h ht
 go_enter Tryz.func274, Tryz.ntmps274
 have l_p := h_lt HP0.out.row
 go_wp2_with fail
 clear l_p;refine qmb ?_;rintro r w' ⟨rfl, hw'⟩;rw [hw'];clear hw';obtain ⟨l_p, xp_0, xp_1, xp_2, xp_3, xp_4, xp_5, yp_0, yp_1, yp_2, yp_3, yp_4, yp_5⟩ := cf6 HP0.out.row
 go_wp2_with fail
 clear l_p xp_0 xp_1 xp_2 xp_3 xp_4 xp_5 yp_0 yp_1 yp_2 yp_3 yp_4 yp_5;refine qsb ?_;rintro r e1 ⟨rfl, hk⟩;have HKe1 := zh (HK0.out.trans hk jg);have HPe1 := zh (HP0.out.keep hk);clear hk HK0 HP0;have l_p := h_lt HPe1.out.row
 go_wp2_with fail
 refine ret_at (v := .bool true) (fun W => Keeps [] e1 W ∧ W.heap[e1.heap.size]? = some (.cells #[.int .i64 5, .string tx, .float .f64 nm, .int .i64 fr, .int .i64 te] 90 (0, 0))) ⟨zg, zb⟩ (fun w2 hW => ?_) rfl (fun w2 hW => ?_)
 ·obtain ⟨Kw2, cw2_T⟩ := hW;exact jnb
 obtain ⟨Kw2, cw2_T⟩ := hW;exact qhd
theorem goes_k6 {s : ByteArray} {p : Nat} {st : PSt} {w : World} (h : PP s p st w) {kd : Int} {tx : ByteArray} {nm fr te : Nat} (ht : nextF s st.pos false = some ⟨6, tx, nm, fr, te⟩)  : Calls Tryz.prog 274 #[.pointer (some ⟨p, 0, none⟩)] w fun r w' => r = .returned (.bool true) ∧ Keeps [] w w' := by
 have g_p := h.p;have HP0 := zh h; have HK0 := zh (Keeps.refl [] w); have HT := zh ht;clear h ht
 go_enter Tryz.func274, Tryz.ntmps274
 have l_p := h_lt HP0.out.row
 go_wp2_with fail
 clear l_p;refine qmb ?_;rintro r w' ⟨rfl, hw'⟩;rw [hw'];clear hw';obtain ⟨l_p, xp_0, xp_1, xp_2, xp_3, xp_4, xp_5, yp_0, yp_1, yp_2, yp_3, yp_4, yp_5⟩ := cf6 HP0.out.row
 go_wp2_with fail
 clear l_p xp_0 xp_1 xp_2 xp_3 xp_4 xp_5 yp_0 yp_1 yp_2 yp_3 yp_4 yp_5;refine qsb ?_;rintro r e1 ⟨rfl, hk⟩;have HKe1 := zh (HK0.out.trans hk jg);have HPe1 := zh (HP0.out.keep hk);clear hk HK0 HP0;have l_p := h_lt HPe1.out.row
 go_wp2_with fail
 refine ret_at (v := .bool true) (fun W => Keeps [] e1 W ∧ W.heap[e1.heap.size]? = some (.cells #[.int .i64 6, .string tx, .float .f64 nm, .int .i64 fr, .int .i64 te] 90 (0, 0))) ⟨zg, zb⟩ (fun w2 hW => ?_) rfl (fun w2 hW => ?_)
 ·obtain ⟨Kw2, cw2_T⟩ := hW;exact jnb
 obtain ⟨Kw2, cw2_T⟩ := hW;exact qhd
theorem goes_k7 {s : ByteArray} {p : Nat} {st : PSt} {w : World} (h : PP s p st w) {kd : Int} {tx : ByteArray} {nm fr te : Nat} (ht : nextF s st.pos false = some ⟨7, tx, nm, fr, te⟩)  : Calls Tryz.prog 274 #[.pointer (some ⟨p, 0, none⟩)] w fun r w' => r = .returned (.bool true) ∧ Keeps [] w w' := by
 have g_p := h.p;have HP0 := zh h; have HK0 := zh (Keeps.refl [] w); have HT := zh ht;clear h ht
 go_enter Tryz.func274, Tryz.ntmps274
 have l_p := h_lt HP0.out.row
 go_wp2_with fail
 clear l_p;refine qmb ?_;rintro r w' ⟨rfl, hw'⟩;rw [hw'];clear hw';obtain ⟨l_p, xp_0, xp_1, xp_2, xp_3, xp_4, xp_5, yp_0, yp_1, yp_2, yp_3, yp_4, yp_5⟩ := cf6 HP0.out.row
 go_wp2_with fail
 clear l_p xp_0 xp_1 xp_2 xp_3 xp_4 xp_5 yp_0 yp_1 yp_2 yp_3 yp_4 yp_5;refine qsb ?_;rintro r e1 ⟨rfl, hk⟩;have HKe1 := zh (HK0.out.trans hk jg);have HPe1 := zh (HP0.out.keep hk);clear hk HK0 HP0;have l_p := h_lt HPe1.out.row
 go_wp2_with fail
 refine ret_at (v := .bool true) (fun W => Keeps [] e1 W ∧ W.heap[e1.heap.size]? = some (.cells #[.int .i64 7, .string tx, .float .f64 nm, .int .i64 fr, .int .i64 te] 90 (0, 0))) ⟨zg, zb⟩ (fun w2 hW => ?_) rfl (fun w2 hW => ?_)
 ·obtain ⟨Kw2, cw2_T⟩ := hW;exact jnb
 obtain ⟨Kw2, cw2_T⟩ := hW;exact qhd
theorem goes_k9 {s : ByteArray} {p : Nat} {st : PSt} {w : World} (h : PP s p st w) {kd : Int} {tx : ByteArray} {nm fr te : Nat} (ht : nextF s st.pos false = some ⟨9, tx, nm, fr, te⟩)  : Calls Tryz.prog 274 #[.pointer (some ⟨p, 0, none⟩)] w fun r w' => r = .returned (.bool (among ⟨#[36, 32, 40, 32, 43, 43, 32, 45, 45]⟩ tx)) ∧ Keeps [] w w' := by
 have g_p := h.p;have HP0 := zh h; have HK0 := zh (Keeps.refl [] w); have HT := zh ht;have HA := zh (fun W => among_any ⟨#[36, 32, 40, 32, 43, 43, 32, 45, 45]⟩ tx zi W);clear h ht
 go_enter Tryz.func274, Tryz.ntmps274
 have l_p := h_lt HP0.out.row
 go_wp2_with fail
 clear l_p;refine qmb ?_;rintro r w' ⟨rfl, hw'⟩;rw [hw'];clear hw';obtain ⟨l_p, xp_0, xp_1, xp_2, xp_3, xp_4, xp_5, yp_0, yp_1, yp_2, yp_3, yp_4, yp_5⟩ := cf6 HP0.out.row
 go_wp2_with fail
 clear l_p xp_0 xp_1 xp_2 xp_3 xp_4 xp_5 yp_0 yp_1 yp_2 yp_3 yp_4 yp_5;refine qsb ?_;rintro r e1 ⟨rfl, hk⟩;have HKe1 := zh (HK0.out.trans hk jg);have HPe1 := zh (HP0.out.keep hk);clear hk HK0 HP0;have l_p := h_lt HPe1.out.row
 go_wp2_with fail
 refine jtb ?_;rintro w2 ⟨Kw2, cw2_T⟩;have ⟨n_p_T, n_T_p⟩ := zne l_p;have o_T : w.heap.size ≤ e1.heap.size := HKe1.out.size;have g_T : 14 < e1.heap.size := Nat.lt_trans g_p l_p;have HKw2 := zh (HKe1.out.trans Kw2 jg);have HPw2 := zh (HPe1.out.keep Kw2);have Rw2_T := zh cw2_T;clear Kw2 cw2_T l_p HKe1 HPe1;refine (HA.out _).mono ?_;rintro r w' ⟨rfl, hw'⟩;rw [hw'];clear hw';have l_p := h_lt HPw2.out.row;have l_T := h_lt Rw2_T.out
 go_wp2_with fail
 refine ret_at (v := .bool (among ⟨#[36, 32, 40, 32, 43, 43, 32, 45, 45]⟩ tx)) (fun W => Keeps [] w2 W) zg (fun w3 hW => ?_) rfl (fun w3 hW => ?_)
 ·have Kw3 : Keeps [] w2 w3 := hW;exact jnb
 have Kw3 : Keeps [] w2 w3 := hW;have Rw3_T := zh (Kw3.at Rw2_T.out jg);have HKw3 := zh (HKw2.out.trans Kw3 jg);have HPw3 := zh (HPw2.out.keep Kw3);clear Kw3 l_p l_T Rw2_T HKw2 HPw2;exact ⟨rfl, HKw3.out⟩
theorem goes_else {s : ByteArray} {p : Nat} {st : PSt} {w : World} (h : PP s p st w) {kd : Int} {tx : ByteArray} {nm fr te : Nat} (ht : nextF s st.pos false = some ⟨kd, tx, nm, fr, te⟩) (n2 : (kd == 2) = false) (n3 : (kd == 3) = false) (n5 : (kd == 5) = false) (n6 : (kd == 6) = false) (n7 : (kd == 7) = false) (n9 : (kd == 9) = false) : Calls Tryz.prog 274 #[.pointer (some ⟨p, 0, none⟩)] w fun r w' => r = .returned (.bool false) ∧ Keeps [] w w' := by
 have g_p := h.p;have HP0 := zh h; have HK0 := zh (Keeps.refl [] w); have HT := zh ht;clear h ht
 go_enter Tryz.func274, Tryz.ntmps274
 have l_p := h_lt HP0.out.row
 go_wp2_with fail
 clear l_p;refine qmb ?_;rintro r w' ⟨rfl, hw'⟩;rw [hw'];clear hw';obtain ⟨l_p, xp_0, xp_1, xp_2, xp_3, xp_4, xp_5, yp_0, yp_1, yp_2, yp_3, yp_4, yp_5⟩ := cf6 HP0.out.row
 go_wp2_with fail
 clear l_p xp_0 xp_1 xp_2 xp_3 xp_4 xp_5 yp_0 yp_1 yp_2 yp_3 yp_4 yp_5;refine qsb ?_;rintro r e1 ⟨rfl, hk⟩;have HKe1 := zh (HK0.out.trans hk jg);have HPe1 := zh (HP0.out.keep hk);clear hk HK0 HP0;have l_p := h_lt HPe1.out.row
 go_wp2_with fail
 refine ret_at (v := .bool false) (fun W => Keeps [] e1 W ∧ W.heap[e1.heap.size]? = some (.cells #[.int .i64 kd, .string tx, .float .f64 nm, .int .i64 fr, .int .i64 te] 90 (0, 0))) ⟨zg, zb⟩ (fun w2 hW => ?_) rfl (fun w2 hW => ?_)
 ·obtain ⟨Kw2, cw2_T⟩ := hW;exact jnb
 obtain ⟨Kw2, cw2_T⟩ := hW;exact qhd
theorem goes_any {s : ByteArray} {p : Nat} {st : PSt} {w : World} (h : PP s p st w) {b : Bool} (hx : goesF s st = some b) : Calls Tryz.prog 274 #[.pointer (some ⟨p, 0, none⟩)] w fun r w' => r = .returned (.bool b) ∧ Keeps [] w w' := by
 unfold goesF at hx
 cases ht : nextF s st.pos false with
 | none => rw [ht] at hx; simp at hx
 | some t =>
  rw [ht] at hx;obtain ⟨kd, tx, nm, fr, te⟩ := t;simp only [Option.bind_eq_bind, Option.bind_some] at hx
  by_cases h5 : kd = 2 ∨ kd = 3 ∨ kd = 5 ∨ kd = 6 ∨ kd = 7
  ·rw [if_pos h5] at hx;obtain rfl := Option.some.inj hx
   rcases h5 with rfl | rfl | rfl | rfl | rfl
   ·exact goes_k2 (kd := 0) h ht
   ·exact goes_k3 (kd := 0) h ht
   ·exact goes_k5 (kd := 0) h ht
   ·exact goes_k6 (kd := 0) h ht
   exact goes_k7 (kd := 0) h ht
  rw [if_neg h5] at hx
  by_cases h9 : kd = 9
  ·subst h9;rw [if_pos rfl] at hx;obtain rfl := Option.some.inj hx;exact goes_k9 (kd := 0) h ht
  rw [if_neg h9] at hx;obtain rfl := Option.some.inj hx;simp only [not_or] at h5;exact goes_else h ht (beq_false_of_ne h5.1) (beq_false_of_ne h5.2.1) (beq_false_of_ne h5.2.2.1) (beq_false_of_ne h5.2.2.2.1) (beq_false_of_ne h5.2.2.2.2) (beq_false_of_ne h9)
def LoopN (s : ByteArray) (p R B : Nat) (w : World) (G : Nat → Node → PSt → Prop) (g : Nat) (wr : World) : Prop :=
 ∃ (n : Node) (st : PSt) (nt : ByteArray) (nm : Nat) (na : Option Addr) (nl nc nr ni : Nat) (S : Nat → Prop) (U : Nat), G g n st ∧ NodeR wr S n (.agg #[.int .i64 n.kind, .string nt, .float .f64 nm, .slice na nl nc, .complex .f64 nr ni]) ∧
  (∀ x, S x → x < U) ∧ U ≤ wr.heap.size ∧ (∀ x, S x → w.heap.size ≤ x) ∧ ¬ S p ∧ ¬ S R ∧ ¬ S B ∧ PP s p st wr ∧ Keeps [p] w wr ∧ wr.heap[R]? = some (.cells #[.int .i64 0, .string ⟨#[]⟩, .float .f64 0, .slice none 0 0, .complex .f64 0 0] 50 (0, 0)) ∧
  wr.heap[B]? = some (.cells #[.int .i64 n.kind, .string nt, .float .f64 nm, .slice na nl nc, .complex .f64 nr ni] 50 (0, 0))
theorem NodeR.reim {w : World} {S : Nat → Prop} {n : Node} {a b c d : Value} {re im : Nat} (h : NodeR w S n (.agg #[a, b, c, d, .complex .f64 re im])) : re = n.re ∧ im = n.im := by
 cases h; exact ⟨rfl, rfl⟩
theorem oneF_none {s : ByteArray} {st st2 : PSt} {sg : ByteArray} (h : oneF s st sg = some (none, st2)) : st2 = st ∧ noneF s st sg = some () := by
 have h2 : noneF s st sg = some () := by rw [noneF, h]; rfl
 refine ⟨?_, h2⟩;rw [oneF] at h
 cases ht : nextF s st.pos false with
 | none => rw [ht] at h; simp at h
 | some t =>
  rw [ht] at h;simp only [Option.bind_eq_bind, Option.bind_some] at h
  split at h
  ·simp at h
  simpa using h.symm
theorem oneF_some {s : ByteArray} {st st2 : PSt} {sg x : ByteArray} {re im : Nat} (h : oneF s st sg = some (some (x, re, im), st2)) : ∃ t, nextF s st.pos false = some t ∧ t.kind = 9 ∧ among sg t.text = true ∧ x = t.text ∧ re = (placeOf s t.fr).1 ∧ im = (placeOf s t.fr).2 ∧ st2 = ⟨t.to, st.opn, st.ng⟩ := by
 rw [oneF] at h
 cases ht : nextF s st.pos false with
 | none => rw [ht] at h; simp at h
 | some t =>
  rw [ht] at h;simp only [Option.bind_eq_bind, Option.bind_some] at h
  split at h
  ·rename_i hc;simp only [Bool.and_eq_true, beq_iff_eq] at hc;simp only [Option.some.injEq, Prod.mk.injEq] at h;obtain ⟨⟨h1, h2⟩, h3⟩ := h;have h4 : placeOf s t.fr = (re, im) := h2;exact ⟨t, rfl, hc.1, hc.2, h1.symm, by rw [h4], by rw [h4], h3.symm⟩
  simp at h
theorem sum_lv {s : ByteArray} {p : Nat} {st st' : PSt} {n' : Node} {rec : Rec} (hrec : ∀ st st' n, rec .product st = some (n, st') → Hands s p st st' n 281) (hx : step s rec .sum st = some (n', st')) : Hands s p st st' n' 273 := by
 simp only [step] at hx
 cases h1 : rec .product st with
 | none => rw [h1] at hx; simp at hx
 | some y =>
  rw [h1] at hx;obtain ⟨n, st1⟩ := y;simp only [Option.bind_eq_bind, Option.bind_some] at hx;have hsub := hrec _ _ _ h1;intro w h;have g_p := h.p;have HP0 := zh h; have HK0 := zh (Keeps.refl [p] w); have HS1 := zh hsub; have HRec := zh hrec; have HG := zh hx;clear h hsub hrec hx h1
  go_enter Tryz.func273, Tryz.ntmps273
  have l_p := h_lt HP0.out.row
  go_wp2_with fail
  refine qrb ?_;rintro w1 ⟨Kw1, cw1_R⟩;have ⟨n_p_R, n_R_p⟩ := zne l_p;have o_R : w.heap.size ≤ w.heap.size := Nat.le_refl _;have g_R : 14 < w.heap.size := Nat.lt_trans g_p l_p;have HKw1 := zh (HK0.out.trans Kw1 jg);have HPw1 := zh (HP0.out.keep Kw1);have Rw1_R := zh cw1_R;clear Kw1 cw1_R l_p HK0 HP0;refine (HS1.out _ HPw1.out).mono ?_;rintro r e2 ⟨v, rfl, hn, hp, hk⟩;have Re2_R := zh (hk.at Rw1_R.out jk);have HKe2 := zh (HKw1.out.trans hk jg);have HPne2 := zh hp;have ne2 := zh hn.seg;have o_n : w.heap.size ≤ w1.heap.size := HKw1.out.size;have ns_n_p : ¬ (Seg w1.heap.size e2.heap.size) (p) := fun h => Nat.not_lt_of_le h.1 (h_lt HPw1.out.row)
  have ns_n_R : ¬ (Seg w1.heap.size e2.heap.size) (w.heap.size) := fun h => Nat.not_lt_of_le h.1 (h_lt Rw1_R.out)
  have up_n : ∀ g, (Seg w1.heap.size e2.heap.size) g → g < e2.heap.size := fun _ h => h.2
  have dn_n : ∀ g, (Seg w1.heap.size e2.heap.size) g → w.heap.size ≤ g := fun _ h => Nat.le_trans o_n h.1
  obtain ⟨nt, nm, na, nl, nc, nr, ni, rfl, -, -⟩ := hn.shape;clear hn hp;clear hk Rw1_R HKw1 HPw1;have l_p := h_lt HPne2.out.row;have l_R := h_lt Re2_R.out
  go_wp2_with fail
  refine qtb ?_;rintro w3 ⟨Kw3, cw3_B⟩;have ⟨n_p_B, n_B_p⟩ := zne l_p;have ⟨n_R_B, n_B_R⟩ := zne l_R;have o_B : w.heap.size ≤ e2.heap.size := HKe2.out.size;have g_B : 14 < e2.heap.size := Nat.lt_trans g_p l_p;have ns_n_B : ¬ (Seg w1.heap.size e2.heap.size) (e2.heap.size) := fun h => Nat.not_lt_of_le ((Nat.le_refl e2.heap.size)) (up_n _ h)
  have Rw3_R := zh (Kw3.at Re2_R.out jg);have HKw3 := zh (HKe2.out.trans Kw3 jg);have HPw3 := zh (HPne2.out.keep Kw3);have nw3 := zh (ne2.out.kp Kw3 jg);have us_nw3 := Nat.le_trans (Nat.le_refl e2.heap.size) Kw3.size;have Rw3_B := zh cw3_B;clear Kw3 cw3_B l_p l_R Re2_R HKe2 HPne2 ne2
  go_loopg [] 50 (fun g wr => LoopN s p w.heap.size e2.heap.size w (fun g n st => sumF s rec g n st = some (n', st')) g wr)
  case atStart => exact zub
  clear HG;obtain ⟨n1, st1, nt, nm, na, nl, nc, nr, ni, S, U, hG, hn, up_n, us_n, dn_n, ns_n_p, ns_n_R, ns_n_B, hp, hk, hR, hB⟩ := hrel;have HN1 := zh hn; have HPr := zh hp; have HKr := zh hk; have RR := zh hR; have RB := zh hB;clear hn hp hk hR hB
  cases gk with
  | zero => simp [sumF] at hG
  | succ f =>
   rw [sumF] at hG
   cases ho : oneF s st1 plusminus with
   | none => rw [ho] at hG; simp at hG
   | some y =>
    rw [ho] at hG;obtain ⟨x, st2⟩ := y;simp only [Option.bind_eq_bind, Option.bind_some] at hG
    cases x with
    | none =>
     obtain ⟨rfl, hno⟩ := oneF_none ho;simp only [Option.some.injEq, Prod.mk.injEq] at hG;obtain ⟨rfl, rfl⟩ := hG;have HO := zh hno;clear ho hno;have l_p := h_lt HPr.out.row;have l_R := h_lt RR.out;have l_B := h_lt RB.out
     go_wp2_with fail
     clear l_p l_R l_B;refine (one_none HPr.out HO.out zi).mono ?_;exact qfd
    | some y =>
     obtain ⟨x, re, im⟩ := y;obtain ⟨t, ht, h9, ha, rfl, rfl, rfl, rfl⟩ := oneF_some ho;simp only at hG
     cases hm : rec .product ⟨t.to, st1.opn, st1.ng⟩ with
     | none => rw [hm] at hG; simp at hG
     | some y =>
      rw [hm] at hG;obtain ⟨m, st2⟩ := y;simp only [Option.bind_some] at hG;have HM := zh (HRec.out _ _ _ hm); have HF := zh hG; have HT := zh ht; have H9 := zh h9; have HA : Hid (among ⟨#[43, 32, 45]⟩ t.text = true) := zh ha;clear hm hG ht h9 ha ho;have l_p := h_lt HPr.out.row;have l_R := h_lt RR.out;have l_B := h_lt RB.out
      go_wp2_with fail
      clear l_p l_R l_B;refine (one_yes HPr.out HT.out ⟨#[43, 32, 45]⟩ zi H9.out HA.out).mono ?_;rintro r e51 ⟨rfl, hp, hk⟩;have Re51_R := zh (hk.at RR.out jk);have Re51_B := zh (hk.at RB.out zr);have HKe51 := zh (HKr.out.trans hk jg);have ne51 := zh (HN1.out.kp hk qz);have us_ne51 := Nat.le_trans us_n hk.size;have HPne51 := zh hp;clear hp;clear hk RR RB HKr HN1 us_n HPr;have l_p := h_lt HPne51.out.row;have l_R := h_lt Re51_R.out;obtain ⟨l_B, xB_0, xB_1, xB_2, xB_3, xB_4, yB_0, yB_1, yB_2, yB_3, yB_4⟩ := cf5 Re51_B.out
      go_upto_region 5 with fail
      have HCm := zh (hands_at HM.out HPne51.out)
      go_upto_region 5 with fail
      go_region_law ((refine step_call (f := 281) (vals := #[.pointer (some ⟨p, 0, none⟩)]) rfl _ rfl jh (HCm.out _ zg) ?_; rintro v u_ ⟨hn, hp, hk⟩; obtain ⟨mt, mm, ma, ml, mc, mr, mi, rfl, -, -⟩ := hn.shape; have r_R := hk.at Re51_R.out jk; have l_R := h_lt r_R; have r_B := hk.at Re51_B.out zr; have l_B := h_lt r_B; have zB_0 := cell_of_heap r_B 0; have zfB_0 := frozen_of_heap r_B 0; have zB_1 := cell_of_heap r_B 1; have zfB_1 := frozen_of_heap r_B 1; have zB_2 := cell_of_heap r_B 2; have zfB_2 := frozen_of_heap r_B 2; have zB_3 := cell_of_heap r_B 3; have zfB_3 := frozen_of_heap r_B 3; have zB_4 := cell_of_heap r_B 4; have zfB_4 := frozen_of_heap r_B 4; simp at zB_0 zB_1 zB_2 zB_3 zB_4))
      all_goals
       have Ru__R := zh (hk.at Re51_R.out jk);have Ru__B := zh (hk.at Re51_B.out zr);have HKu_ := zh (HKe51.out.trans hk jg);have nu_ := zh (ne51.out.kp hk qz);have us_nu_ := Nat.le_trans us_ne51 hk.size;have HPnu_ := zh hp;have mu_ := zh hn;have o_m : w.heap.size ≤ e51.heap.size := HKe51.out.size;have ns_m_p : ¬ (Seg e51.heap.size u_.heap.size) (p) := fun h => Nat.not_lt_of_le h.1 (h_lt HPne51.out.row)
       have ns_m_R : ¬ (Seg e51.heap.size u_.heap.size) (w.heap.size) := fun h => Nat.not_lt_of_le h.1 (h_lt Re51_R.out)
       have ns_m_B : ¬ (Seg e51.heap.size u_.heap.size) (e2.heap.size) := fun h => Nat.not_lt_of_le h.1 (h_lt Re51_B.out)
       have up_m : ∀ g, (Seg e51.heap.size u_.heap.size) g → g < u_.heap.size := fun _ h => h.2
       have dn_m : ∀ g, (Seg e51.heap.size u_.heap.size) g → w.heap.size ≤ g := fun _ h => Nat.le_trans o_m h.1
       clear hn hp;clear hk Re51_R Re51_B HKe51 ne51 us_ne51 HPne51 xB_0 xB_1 xB_2 xB_3 xB_4 yB_0 yB_1 yB_2 yB_3 yB_4;have l_p := h_lt HPnu_.out.row;have l_R := h_lt Ru__R.out;have l_B := h_lt Ru__B.out
       go_wp2_with fail
       go_roundg f
       case measure => omega
       refine inv_at (fun W => Keeps [e2.heap.size] u_ W ∧ W.heap[e2.heap.size]? = some (.cells #[.int .i64 15, .string t.text, .float .f64 0, .slice (some ⟨u_.heap.size, 0, none⟩) 2 2, .complex .f64 (placeOf s t.fr).1 (placeOf s t.fr).2] 50 (0, 0)) ∧ W.heap[u_.heap.size]? = some (.cells #[.int .i64 n1.kind, .string nt, .float .f64 nm, .slice na nl nc, .complex .f64 nr ni, .int .i64 m.kind, .string mt, .float .f64 mm, .slice ma ml mc, .complex .f64 mr mi] 50 (0, 0))) ⟨zg, (jb Ru__B.out l_B), (jb Ru__B.out l_B)⟩ ?_;rintro w52 ⟨Kw52, cw52_B, cw52_G⟩;have ⟨n_p_G, n_G_p⟩ := zne l_p;have ⟨n_R_G, n_G_R⟩ := zne l_R;have ⟨n_B_G, n_G_B⟩ := zne l_B;have o_G : w.heap.size ≤ u_.heap.size := HKu_.out.size;have g_G : 14 < u_.heap.size := Nat.lt_trans g_p l_p;have ns_n_G : ¬ (S) (u_.heap.size) := fun h => Nat.not_lt_of_le (us_nu_) (up_n _ h)
       have ns_m_G : ¬ (Seg e51.heap.size u_.heap.size) (u_.heap.size) := fun h => Nat.not_lt_of_le ((Nat.le_refl u_.heap.size)) (up_m _ h)
       have Rw52_R := zh (Kw52.at Ru__R.out (by simp [n_R_B]));have HKw52 := zh (HKu_.out.trans Kw52 (by simp [o_B]));have HPw52 := zh (HPnu_.out.keepN Kw52 (by simp [n_p_B]) (by simp [g_B]));have nw52 := zh (nu_.out.kp Kw52 (by simp [ns_n_B]));have us_nw52 := Nat.le_trans us_nu_ Kw52.size;have mw52 := zh (mu_.out.kp Kw52 (by simp [ns_m_B]));have us_mw52 := Nat.le_trans (Nat.le_refl u_.heap.size) Kw52.size;have Rw52_B := zh cw52_B;have Rw52_G := zh cw52_G;clear Kw52 cw52_B cw52_G l_p l_R l_B Ru__R HKu_ HPnu_ nu_ us_nu_ mu_ Ru__B
       exact ⟨.mk 15 t.text 0 [n1, m] (placeOf s t.fr).1 (placeOf s t.fr).2, _, t.text, 0, some ⟨u_.heap.size, 0, none⟩, 2, 2, _, _, (fun x => S x ∨ (Seg e51.heap.size u_.heap.size) x ∨ x = u_.heap.size), w52.heap.size, HF.out,
        .mk (.some (.inr (.inr rfl)) (h_lt Rw52_G.out) (row2 nw52.out (fun _ h => .inl h) mw52.out (fun _ h => .inr (.inl h)) Rw52_G.out)),
        fun x h => h.elim (fun h => Nat.lt_of_lt_of_le (up_n x h) us_nw52) fun h => h.elim (fun h => Nat.lt_of_lt_of_le (up_m x h) us_mw52) fun h => by rw [h]; exact h_lt Rw52_G.out,
        Nat.le_refl _, fun x h => h.elim (dn_n x) fun h => h.elim (dn_m x) fun h => by rw [h]; exact o_G,
        (fun h => h.elim ns_n_p fun h => h.elim ns_m_p n_p_G), (fun h => h.elim ns_n_R fun h => h.elim ns_m_R n_R_G), (fun h => h.elim ns_n_B fun h => h.elim ns_m_B n_B_G), HPw52.out, HKw52.out, Rw52_R.out, Rw52_B.out⟩
theorem concat_lv {s : ByteArray} {p : Nat} {st st' : PSt} {n' : Node} {rec : Rec} (hrec : ∀ st st' n, rec .sum st = some (n, st') → Hands s p st st' n 273) (hx : step s rec .concat st = some (n', st')) : Hands s p st st' n' 270 := by
 simp only [step] at hx
 cases h1 : rec .sum st with
 | none => rw [h1] at hx; simp at hx
 | some y =>
  rw [h1] at hx;obtain ⟨n, st1⟩ := y;simp only [Option.bind_eq_bind, Option.bind_some] at hx;have hsub := hrec _ _ _ h1;intro w h;have g_p := h.p;have HP0 := zh h; have HK0 := zh (Keeps.refl [p] w); have HS1 := zh hsub; have HRec := zh hrec; have HG := zh hx;clear h hsub hrec hx h1
  go_enter Tryz.func270, Tryz.ntmps270
  have l_p := h_lt HP0.out.row
  go_wp2_with fail
  refine qrb ?_;rintro w1 ⟨Kw1, cw1_R⟩;have ⟨n_p_R, n_R_p⟩ := zne l_p;have o_R : w.heap.size ≤ w.heap.size := Nat.le_refl _;have g_R : 14 < w.heap.size := Nat.lt_trans g_p l_p;have HKw1 := zh (HK0.out.trans Kw1 jg);have HPw1 := zh (HP0.out.keep Kw1);have Rw1_R := zh cw1_R;clear Kw1 cw1_R l_p HK0 HP0;refine (HS1.out _ HPw1.out).mono ?_;rintro r e2 ⟨v, rfl, hn, hp, hk⟩;have Re2_R := zh (hk.at Rw1_R.out jk);have HKe2 := zh (HKw1.out.trans hk jg);have HPne2 := zh hp;have ne2 := zh hn.seg;have o_n : w.heap.size ≤ w1.heap.size := HKw1.out.size;have ns_n_p : ¬ (Seg w1.heap.size e2.heap.size) (p) := fun h => Nat.not_lt_of_le h.1 (h_lt HPw1.out.row)
  have ns_n_R : ¬ (Seg w1.heap.size e2.heap.size) (w.heap.size) := fun h => Nat.not_lt_of_le h.1 (h_lt Rw1_R.out)
  have up_n : ∀ g, (Seg w1.heap.size e2.heap.size) g → g < e2.heap.size := fun _ h => h.2
  have dn_n : ∀ g, (Seg w1.heap.size e2.heap.size) g → w.heap.size ≤ g := fun _ h => Nat.le_trans o_n h.1
  obtain ⟨nt, nm, na, nl, nc, nr, ni, rfl, -, -⟩ := hn.shape;clear hn hp;clear hk Rw1_R HKw1 HPw1;have l_p := h_lt HPne2.out.row;have l_R := h_lt Re2_R.out
  go_wp2_with fail
  refine qtb ?_;rintro w3 ⟨Kw3, cw3_B⟩;have ⟨n_p_B, n_B_p⟩ := zne l_p;have ⟨n_R_B, n_B_R⟩ := zne l_R;have o_B : w.heap.size ≤ e2.heap.size := HKe2.out.size;have g_B : 14 < e2.heap.size := Nat.lt_trans g_p l_p;have ns_n_B : ¬ (Seg w1.heap.size e2.heap.size) (e2.heap.size) := fun h => Nat.not_lt_of_le ((Nat.le_refl e2.heap.size)) (up_n _ h)
  have Rw3_R := zh (Kw3.at Re2_R.out jg);have HKw3 := zh (HKe2.out.trans Kw3 jg);have HPw3 := zh (HPne2.out.keep Kw3);have nw3 := zh (ne2.out.kp Kw3 jg);have us_nw3 := Nat.le_trans (Nat.le_refl e2.heap.size) Kw3.size;have Rw3_B := zh cw3_B;clear Kw3 cw3_B l_p l_R Re2_R HKe2 HPne2 ne2
  go_loopg [] 50 (fun g wr => LoopN s p w.heap.size e2.heap.size w (fun g n st => concatF s rec g n st = some (n', st')) g wr)
  case atStart => exact zub
  clear HG;obtain ⟨n1, st1, nt, nm, na, nl, nc, nr, ni, S, U, hG, hn, up_n, us_n, dn_n, ns_n_p, ns_n_R, ns_n_B, hp, hk, hR, hB⟩ := hrel;have HN1 := zh hn; have HPr := zh hp; have HKr := zh hk; have RR := zh hR; have RB := zh hB;clear hn hp hk hR hB
  cases gk with
  | zero => simp [concatF] at hG
  | succ f =>
   rw [concatF] at hG
   cases ho : goesF s st1 with
   | none => rw [ho] at hG; simp at hG
   | some b =>
    rw [ho] at hG;simp only [Option.bind_eq_bind, Option.bind_some] at hG
    cases b with
    | false =>
     simp only [Option.some.injEq, Prod.mk.injEq, Bool.false_eq_true, if_false] at hG;obtain ⟨rfl, rfl⟩ := hG;have HT := zh ho;clear ho;have l_p := h_lt HPr.out.row;have l_R := h_lt RR.out;have l_B := h_lt RB.out
     go_wp2_with fail
     clear l_p l_R l_B;refine (goes_any HPr.out HT.out).mono ?_;exact qfd
    | true =>
     simp at hG
end Go.Proofs.YtkfillfkbhbbjaaGreatDoor
