/- LevelsM, LevelsN, LevelsO, LevelsP, LevelsQ. -/
import Derived.Test.YtkfillfkbhbbjaaGreatDoorLevelsL
set_option maxRecDepth 100000
set_option maxHeartbeats 4000000
set_option linter.unusedSimpArgs false
set_option linter.unusedVariables false
namespace Go.Proofs.YtkfillfkbhbbjaaGreatDoor
open Go.RowKit
theorem lists_at {s : ByteArray} {p : Nat} {st st' : PSt} {l : List Node} {f : FuncId} {args : List Value} {b : World} (h : Lists s p st st' l f args) (hp : PP s p st b) (W : World) (hk : Keeps [] b W) :
  Calls Tryz.prog f (.pointer (some ⟨p, 0, none⟩) :: args).toArray W fun r w' => ∃ v, r = .returned v ∧ (KidsR w' (Seg b.heap.size w'.heap.size) l v ∧ PP s p st' w' ∧ Keeps [p] b w') :=
 (h W (hp.keep hk)).mono fun _ _ ⟨v, hr, hn, hp', hk'⟩ => ⟨v, hr, (hn.to fun _ h => Nat.le_trans hk.size h).seg, hp', (hk.weaken jg).trans hk' jg⟩
theorem operand_index {s : ByteArray} {p : Nat} {st : PSt} {tx : ByteArray} {nm fr te : Nat} (ht : nextF s st.pos true = some ⟨5, tx, nm, fr, te⟩) {st2 st3 : PSt} {l : List Node} (hx : takeF s ⟨te, st.opn, st.ng⟩ ⟨#[91]⟩ = some (true, st2)) (hi : Lists s p st2 st3 l 189 [.string ⟨#[93]⟩]) : Hands s p st st3 (.mk 5 tx 0 l (placeOf s fr).1 (placeOf s fr).2) 294 := by
 intro w h;have g_p := h.p;obtain ⟨le1, le2, -⟩ := nextF_le ht h.le;simp only at le1 le2;have le3 := Nat.le_trans le1 le2;have HP0 := zh h; have HK0 := zh (Keeps.refl [p] w); have HT := zh ht; have HX := zh hx; have HI := zh hi;clear h ht le1 hx hi
 go_enter Tryz.func294, Tryz.ntmps294
 have l_p := h_lt HP0.out.row
 go_wp2_with fail
 refine qrb ?_;rintro w1 ⟨Kw1, cw1_R⟩;have ⟨n_p_R, n_R_p⟩ := zne l_p;have o_R : w.heap.size ≤ w.heap.size := Nat.le_refl _;have g_R : 14 < w.heap.size := Nat.lt_trans g_p l_p;have HKw1 := zh (HK0.out.trans Kw1 jg);have HPw1 := zh (HP0.out.keep Kw1);have Rw1_R := zh cw1_R;clear Kw1 cw1_R l_p HK0 HP0;refine (see_any HPw1.out HT.out).mono ?_;rintro r e2 ⟨rfl, hk⟩;have Re2_R := zh (hk.at Rw1_R.out jg);have HKe2 := zh (HKw1.out.trans hk jg);have HPe2 := zh (HPw1.out.keep hk);clear hk Rw1_R HKw1 HPw1;have l_p := h_lt HPe2.out.row;have l_R := h_lt Re2_R.out
 go_wp2_with fail
 refine jwb ?_;rintro w3 ⟨Kw3, cw3_T⟩;have ⟨n_p_T, n_T_p⟩ := zne l_p;have ⟨n_R_T, n_T_R⟩ := zne l_R;have o_T : w.heap.size ≤ e2.heap.size := HKe2.out.size;have g_T : 14 < e2.heap.size := Nat.lt_trans g_p l_p;have Rw3_R := zh (Kw3.at Re2_R.out jg);have HKw3 := zh (HKe2.out.trans Kw3 jg);have HPw3 := zh (HPe2.out.keep Kw3);have Rw3_T := zh cw3_T;clear Kw3 cw3_T l_p l_R Re2_R HKe2 HPe2;refine (ok_any HPw3.out).mono ?_;rintro r w' ⟨rfl, hw'⟩;rw [hw'];clear hw';have l_p := h_lt HPw3.out.row;have l_R := h_lt Rw3_R.out;obtain ⟨l_T, xT_0, xT_1, xT_2, xT_3, xT_4, yT_0, yT_1, yT_2, yT_3, yT_4⟩ := cf5 Rw3_T.out
 go_wp2_with fail
 clear l_p l_R l_T xT_0 xT_1 xT_2 xT_3 xT_4 yT_0 yT_1 yT_2 yT_3 yT_4;refine (place_tok HPw3.out ⟨5, tx, nm, fr, te⟩ le3).mono ?_;rintro r e4 ⟨rfl, hk⟩;have Re4_R := zh (hk.at Rw3_R.out jg);have Re4_T := zh (hk.at Rw3_T.out jg);have HKe4 := zh (HKw3.out.trans hk jg);have HPe4 := zh (HPw3.out.keep hk);clear hk Rw3_R Rw3_T HKw3 HPw3;obtain ⟨l_p, xp_0, xp_1, xp_2, xp_3, xp_4, xp_5, yp_0, yp_1, yp_2, yp_3, yp_4, yp_5⟩ := cf6 HPe4.out.row;have l_R := h_lt Re4_R.out;obtain ⟨l_T, xT_0, xT_1, xT_2, xT_3, xT_4, yT_0, yT_1, yT_2, yT_3, yT_4⟩ := cf5 Re4_T.out
 go_wp2_with fail
 refine qwb ?_;rintro w5 ⟨Kw5, cw5_p⟩;have Rw5_R := zh (Kw5.at Re4_R.out jk);have Rw5_T := zh (Kw5.at Re4_T.out jl);have HKw5 := zh (HKe4.out.trans Kw5 jg);have HPw5 : Hid (PP s p ⟨te, st.opn, st.ng⟩ w5) := zh (HPe4.out.upd Kw5 qcb cw5_p zv HPe4.out.ob);clear Kw5 cw5_p l_p xp_0 xp_1 xp_2 xp_3 xp_4 xp_5 yp_0 yp_1 yp_2 yp_3 yp_4 yp_5 l_R l_T xT_0 xT_1 xT_2 xT_3 xT_4 yT_0 yT_1 yT_2 yT_3 yT_4 Re4_R Re4_T HKe4 HPe4;refine (take_any HPw5.out HX.out).mono ?_;rintro r e6 ⟨rfl, hp, hk⟩;have Re6_R := zh (hk.at Rw5_R.out jk);have Re6_T := zh (hk.at Rw5_T.out jl);have HKe6 := zh (HKw5.out.trans hk jg);have HPne6 := zh hp;clear hp;clear hk Rw5_R Rw5_T HKw5 HPw5;have l_p := h_lt HPne6.out.row;obtain ⟨l_R, xR_0, xR_1, xR_2, xR_3, xR_4, yR_0, yR_1, yR_2, yR_3, yR_4⟩ := cf5 Re6_R.out;obtain ⟨l_T, xT_0, xT_1, xT_2, xT_3, xT_4, yT_0, yT_1, yT_2, yT_3, yT_4⟩ := cf5 Re6_T.out
 go_upto_region 23 with fail
 have HCl := zh (lists_at HI.out HPne6.out)
 go_upto_region 23 with fail
 go_cut [] (fun W => ∃ (u_ : World) (la : Option Addr) (ll lc : Nat), KidsR u_ (Seg e6.heap.size u_.heap.size) l (.slice la ll lc) ∧ PP s p ⟨st3.pos, st3.opn, st3.ng⟩ u_ ∧ Keeps [p] e6 u_ ∧ Keeps [w.heap.size] u_ W ∧ W.heap[w.heap.size]? = some (.cells #[.int .i64 5, .string tx, .float .f64 0, .slice la ll lc, .complex .f64 (placeOf s fr).1 (placeOf s fr).2] 50 (0, 0)))
 case first =>
  go_region_law ((refine step_call (f := 189) (vals := #[.pointer (some ⟨p, 0, none⟩), .string ⟨#[93]⟩]) rfl _ rfl jh (HCl.out _ zg) ?_; rintro v u_ ⟨hn, hp, hk⟩; obtain ⟨la, ll, lc, rfl⟩ := hn.slice; have r_R := hk.at Re6_R.out jk; have l_R := h_lt r_R; have zR_0 := cell_of_heap r_R 0; have zfR_0 := frozen_of_heap r_R 0; have zR_1 := cell_of_heap r_R 1; have zfR_1 := frozen_of_heap r_R 1; have zR_2 := cell_of_heap r_R 2; have zfR_2 := frozen_of_heap r_R 2; have zR_3 := cell_of_heap r_R 3; have zfR_3 := frozen_of_heap r_R 3; have zR_4 := cell_of_heap r_R 4; have zfR_4 := frozen_of_heap r_R 4; simp at zR_0 zR_1 zR_2 zR_3 zR_4; have r_T := hk.at Re6_T.out jl; have l_T := h_lt r_T; have zT_0 := cell_of_heap r_T 0; have zfT_0 := frozen_of_heap r_T 0; have zT_1 := cell_of_heap r_T 1; have zfT_1 := frozen_of_heap r_T 1; have zT_2 := cell_of_heap r_T 2; have zfT_2 := frozen_of_heap r_T 2; have zT_3 := cell_of_heap r_T 3; have zfT_3 := frozen_of_heap r_T 3; have zT_4 := cell_of_heap r_T 4; have zfT_4 := frozen_of_heap r_T 4; simp at zT_0 zT_1 zT_2 zT_3 zT_4))
  all_goals
   go_wp2_with fail
   go_meet
   case rel => exact ⟨u_, la, ll, lc, hn, hp, hk, zg, (qb r_R l_R)⟩
 clear l_p l_R xR_0 xR_1 xR_2 xR_3 xR_4 yR_0 yR_1 yR_2 yR_3 yR_4 l_T xT_0 xT_1 xT_2 xT_3 xT_4 yT_0 yT_1 yT_2 yT_3 yT_4;obtain ⟨e7, la, ll, lc, hn, hp, hk, Kw8, cc_R⟩ := hcut;have Re7_R := zh (hk.at Re6_R.out jk);have Re7_T := zh (hk.at Re6_T.out jl);have HKe7 := zh (HKe6.out.trans hk jg);have HPne7 := zh hp;have le7 := zh hn;have o_l : w.heap.size ≤ e6.heap.size := HKe6.out.size;have ns_l_p : ¬ (Seg e6.heap.size e7.heap.size) (p) := fun h => Nat.not_lt_of_le h.1 (h_lt HPne6.out.row)
 have ns_l_R : ¬ (Seg e6.heap.size e7.heap.size) (w.heap.size) := fun h => Nat.not_lt_of_le h.1 (h_lt Re6_R.out)
 have ns_l_T : ¬ (Seg e6.heap.size e7.heap.size) (e2.heap.size) := fun h => Nat.not_lt_of_le h.1 (h_lt Re6_T.out)
 have up_l : ∀ g, (Seg e6.heap.size e7.heap.size) g → g < e7.heap.size := fun _ h => h.2
 have dn_l : ∀ g, (Seg e6.heap.size e7.heap.size) g → w.heap.size ≤ g := fun _ h => Nat.le_trans o_l h.1
 clear hn hp;clear hk Re6_R Re6_T HKe6 HPne6;have l_p := h_lt HPne7.out.row;have l_R := h_lt Re7_R.out;have l_T := h_lt Re7_T.out;generalize wc = w8 at *
 have cw8_R := cc_R;clear cc_R;have Rw8_T := zh (Kw8.at Re7_T.out qx);have HKw8 := zh (HKe7.out.trans Kw8 zp);have HPw8 := zh (HPne7.out.keepN Kw8 jr zt);have lw8 := zh (le7.out.kp Kw8 (by simp [ns_l_R]));have us_lw8 := Nat.le_trans (Nat.le_refl e7.heap.size) Kw8.size;have Rw8_R := zh cw8_R;clear Kw8 cw8_R l_p l_R l_T Re7_T HKe7 HPne7 le7 Re7_R;have l_p := h_lt HPw8.out.row;obtain ⟨l_R, xR_0, xR_1, xR_2, xR_3, xR_4, yR_0, yR_1, yR_2, yR_3, yR_4⟩ := cf5 Rw8_R.out;have l_T := h_lt Rw8_T.out
 go_wp2_with fail
 refine ret_at (v := .agg #[.int .i64 5, .string tx, .float .f64 0, .slice la ll lc, .complex .f64 (placeOf s fr).1 (placeOf s fr).2]) (fun W => Keeps [] w8 W) zg (fun w9 hW => ?_) rfl (fun w9 hW => ?_)
 ·have Kw9 : Keeps [] w8 w9 := hW;have q0 := cell_of_heap (Kw9.at Rw8_R.out jg) 0;have q1 := cell_of_heap (Kw9.at Rw8_R.out jg) 1;have q2 := cell_of_heap (Kw9.at Rw8_R.out jg) 2;have q3 := cell_of_heap (Kw9.at Rw8_R.out jg) 3;have q4 := cell_of_heap (Kw9.at Rw8_R.out jg) 4;simp at q0 q1 q2 q3 q4;exact jsb
 have Kw9 : Keeps [] w8 w9 := hW;have Rw9_R := zh (Kw9.at Rw8_R.out jg);have Rw9_T := zh (Kw9.at Rw8_T.out jg);have HKw9 := zh (HKw8.out.trans Kw9 jg);have HPw9 := zh (HPw8.out.keep Kw9);have lw9 := zh (lw8.out.kp Kw9 jg);have us_lw9 := Nat.le_trans us_lw8 Kw9.size;clear Kw9 l_p l_R xR_0 xR_1 xR_2 xR_3 xR_4 yR_0 yR_1 yR_2 yR_3 yR_4 l_T Rw8_R Rw8_T HKw8 HPw8 lw8 us_lw8;exact ⟨_, rfl, .mk (lw9.out.to dn_l), HPw9.out, HKw9.out⟩
theorem operand_dollar {s : ByteArray} {p : Nat} {st : PSt} {tx : ByteArray} {nm fr te : Nat} (ht : nextF s st.pos true = some ⟨9, tx, nm, fr, te⟩) {st2 : PSt} {n : Node} (htx : (tx.toList == [36]) = true) (hd : Hands s p ⟨te, st.opn, st.ng⟩ st2 n 296) : Hands s p st st2 (.mk 6 ⟨#[]⟩ 0 [n] (placeOf s fr).1 (placeOf s fr).2) 294 := by
 intro w h;have g_p := h.p;obtain ⟨le1, le2, -⟩ := nextF_le ht h.le;simp only at le1 le2;have le3 := Nat.le_trans le1 le2;have HP0 := zh h; have HK0 := zh (Keeps.refl [p] w); have HT := zh ht; have HD := zh hd;clear h ht le1 hd
 go_enter Tryz.func294, Tryz.ntmps294
 have l_p := h_lt HP0.out.row
 go_wp2_with fail
 refine qrb ?_;rintro w1 ⟨Kw1, cw1_R⟩;have ⟨n_p_R, n_R_p⟩ := zne l_p;have o_R : w.heap.size ≤ w.heap.size := Nat.le_refl _;have g_R : 14 < w.heap.size := Nat.lt_trans g_p l_p;have HKw1 := zh (HK0.out.trans Kw1 jg);have HPw1 := zh (HP0.out.keep Kw1);have Rw1_R := zh cw1_R;clear Kw1 cw1_R l_p HK0 HP0;refine (see_any HPw1.out HT.out).mono ?_;rintro r e2 ⟨rfl, hk⟩;have Re2_R := zh (hk.at Rw1_R.out jg);have HKe2 := zh (HKw1.out.trans hk jg);have HPe2 := zh (HPw1.out.keep hk);clear hk Rw1_R HKw1 HPw1;have l_p := h_lt HPe2.out.row;have l_R := h_lt Re2_R.out
 go_wp2_with fail
 refine calls_at (fun W => Keeps [] e2 W ∧ W.heap[e2.heap.size]? = some (.cells #[.int .i64 9, .string tx, .float .f64 nm, .int .i64 fr, .int .i64 te] 90 (0, 0))) ⟨zg, zb⟩ ?_;rintro w3 ⟨Kw3, cw3_T⟩;have ⟨n_p_T, n_T_p⟩ := zne l_p;have ⟨n_R_T, n_T_R⟩ := zne l_R;have o_T : w.heap.size ≤ e2.heap.size := HKe2.out.size;have g_T : 14 < e2.heap.size := Nat.lt_trans g_p l_p;have Rw3_R := zh (Kw3.at Re2_R.out jg);have HKw3 := zh (HKe2.out.trans Kw3 jg);have HPw3 := zh (HPe2.out.keep Kw3);have Rw3_T := zh cw3_T;clear Kw3 cw3_T l_p l_R Re2_R HKe2 HPe2;refine (ok_any HPw3.out).mono ?_;rintro r w' ⟨rfl, hw'⟩;rw [hw'];clear hw';have l_p := h_lt HPw3.out.row;have l_R := h_lt Rw3_R.out;obtain ⟨l_T, xT_0, xT_1, xT_2, xT_3, xT_4, yT_0, yT_1, yT_2, yT_3, yT_4⟩ := cf5 Rw3_T.out
 go_wp2_with fail
 clear l_p l_R l_T xT_0 xT_1 xT_2 xT_3 xT_4 yT_0 yT_1 yT_2 yT_3 yT_4;refine (place_tok HPw3.out ⟨9, tx, nm, fr, te⟩ le3).mono ?_;rintro r e4 ⟨rfl, hk⟩;have Re4_R := zh (hk.at Rw3_R.out jg);have Re4_T := zh (hk.at Rw3_T.out jg);have HKe4 := zh (HKw3.out.trans hk jg);have HPe4 := zh (HPw3.out.keep hk);clear hk Rw3_R Rw3_T HKw3 HPw3;obtain ⟨l_p, xp_0, xp_1, xp_2, xp_3, xp_4, xp_5, yp_0, yp_1, yp_2, yp_3, yp_4, yp_5⟩ := cf6 HPe4.out.row;have l_R := h_lt Re4_R.out;obtain ⟨l_T, xT_0, xT_1, xT_2, xT_3, xT_4, yT_0, yT_1, yT_2, yT_3, yT_4⟩ := cf5 Re4_T.out
 go_wp2_with fail
 refine qwb ?_;rintro w5 ⟨Kw5, cw5_p⟩;have Rw5_R := zh (Kw5.at Re4_R.out jk);have Rw5_T := zh (Kw5.at Re4_T.out jl);have HKw5 := zh (HKe4.out.trans Kw5 jg);have HPw5 : Hid (PP s p ⟨te, st.opn, st.ng⟩ w5) := zh (HPe4.out.upd Kw5 qcb cw5_p zv HPe4.out.ob);clear Kw5 cw5_p l_p xp_0 xp_1 xp_2 xp_3 xp_4 xp_5 yp_0 yp_1 yp_2 yp_3 yp_4 yp_5 l_R l_T xT_0 xT_1 xT_2 xT_3 xT_4 yT_0 yT_1 yT_2 yT_3 yT_4 Re4_R Re4_T HKe4 HPe4;refine (HD.out _ HPw5.out).mono ?_;rintro r e6 ⟨v, rfl, hn, hp, hk⟩;have Re6_R := zh (hk.at Rw5_R.out jk);have Re6_T := zh (hk.at Rw5_T.out jl);have HKe6 := zh (HKw5.out.trans hk jg);have HPne6 := zh hp;have ne6 := zh hn.seg;have o_n : w.heap.size ≤ w5.heap.size := HKw5.out.size;have ns_n_p : ¬ (Seg w5.heap.size e6.heap.size) (p) := fun h => Nat.not_lt_of_le h.1 (h_lt HPw5.out.row)
 have ns_n_R : ¬ (Seg w5.heap.size e6.heap.size) (w.heap.size) := fun h => Nat.not_lt_of_le h.1 (h_lt Rw5_R.out)
 have ns_n_T : ¬ (Seg w5.heap.size e6.heap.size) (e2.heap.size) := fun h => Nat.not_lt_of_le h.1 (h_lt Rw5_T.out)
 have up_n : ∀ g, (Seg w5.heap.size e6.heap.size) g → g < e6.heap.size := fun _ h => h.2
 have dn_n : ∀ g, (Seg w5.heap.size e6.heap.size) g → w.heap.size ≤ g := fun _ h => Nat.le_trans o_n h.1
 obtain ⟨nt, nm, na, nl, nc, nr, ni, rfl, -, -⟩ := hn.shape;clear hn hp;clear hk Rw5_R Rw5_T HKw5 HPw5;have l_p := h_lt HPne6.out.row;obtain ⟨l_R, xR_0, xR_1, xR_2, xR_3, xR_4, yR_0, yR_1, yR_2, yR_3, yR_4⟩ := cf5 Re6_R.out;have l_T := h_lt Re6_T.out
 go_wp2_with fail
 refine ret_at (v := .agg #[.int .i64 6, .string ⟨#[]⟩, .float .f64 0, .slice (some ⟨e6.heap.size, 0, none⟩) 1 1, .complex .f64 (placeOf s fr).1 (placeOf s fr).2]) (fun W => Keeps [w.heap.size] e6 W ∧ W.heap[w.heap.size]? = some (.cells #[.int .i64 6, .string ⟨#[]⟩, .float .f64 0, .slice (some ⟨e6.heap.size, 0, none⟩) 1 1, .complex .f64 (placeOf s fr).1 (placeOf s fr).2] 50 (0, 0)) ∧ W.heap[e6.heap.size]? = some (.cells #[.int .i64 n.kind, .string nt, .float .f64 nm, .slice na nl nc, .complex .f64 nr ni] 50 (0, 0))) ⟨zg, (jb Re6_R.out l_R), (jb Re6_R.out l_R)⟩ (fun w7 hW => ?_) rfl (fun w7 hW => ?_)
 ·obtain ⟨Kw7, cw7_R, cw7_G⟩ := hW;exact jpd
 obtain ⟨Kw7, cw7_R, cw7_G⟩ := hW;have ⟨n_p_G, n_G_p⟩ := zne l_p;have ⟨n_R_G, n_G_R⟩ := zne l_R;have ⟨n_T_G, n_G_T⟩ := zne l_T;have o_G : w.heap.size ≤ e6.heap.size := HKe6.out.size;have g_G : 14 < e6.heap.size := Nat.lt_trans g_p l_p;have ns_n_G : ¬ (Seg w5.heap.size e6.heap.size) (e6.heap.size) := fun h => Nat.not_lt_of_le ((Nat.le_refl e6.heap.size)) (up_n _ h)
 have Rw7_T := zh (Kw7.at Re6_T.out qx);have HKw7 := zh (HKe6.out.trans Kw7 zp);have HPw7 := zh (HPne6.out.keepN Kw7 jr zt);have nw7 := zh (ne6.out.kp Kw7 jw);have us_nw7 := Nat.le_trans (Nat.le_refl e6.heap.size) Kw7.size;have Rw7_R := zh cw7_R;have Rw7_G := zh cw7_G;clear Kw7 cw7_R cw7_G l_p l_R xR_0 xR_1 xR_2 xR_3 xR_4 yR_0 yR_1 yR_2 yR_3 yR_4 l_T Re6_T HKe6 HPne6 ne6 Re6_R;exact ⟨_, rfl, .mk (.some (S := fun g => w.heap.size ≤ g) o_G (h_lt Rw7_G.out) (row1 nw7.out dn_n Rw7_G.out)), HPw7.out, HKw7.out⟩
theorem take_not {s : ByteArray} {st : PSt} {x : ByteArray} (h : notF s st x = some ()) : takeF s st x = some (false, st) := by
 unfold notF isF at h;unfold takeF
 cases ht : nextF s st.pos false with
 | none => rw [ht] at h; simp at h
 | some t =>
  rw [ht] at h;simp only [Option.bind_eq_bind, Option.bind_some] at h ⊢
  cases hb : isT t x
  ·simp [hb]
  rw [hb] at h; simp at h
theorem simple_next {s : ByteArray} {p : Nat} {st : PSt} {kd : Int} {tx : ByteArray} {nm fr te : Nat} (ht : nextF s st.pos true = some ⟨kd, tx, nm, fr, te⟩) (hn_break : notF s st ⟨#[98, 114, 101, 97, 107]⟩ = some ()) (hn_continue : notF s st ⟨#[99, 111, 110, 116, 105, 110, 117, 101]⟩ = some ()) {st2 : PSt} (hx : takeF s st ⟨#[110, 101, 120, 116]⟩ = some (true, st2)) : Hands s p st st2 (.mk 38 ⟨#[]⟩ 0 [] (placeOf s fr).1 (placeOf s fr).2) 165 := by
 intro w h;have g_p := h.p;have HP0 := zh h; have HK0 := zh (Keeps.refl [p] w); have HT := zh ht; have HN_break := zh (take_not hn_break); have HN_continue := zh (take_not hn_continue); have HX := zh hx;clear h ht hn_break hn_continue hx
 go_enter Tryz.func165, Tryz.ntmps165
 have l_p := h_lt HP0.out.row
 go_wp2_with fail
 refine qrb ?_;rintro w1 ⟨Kw1, cw1_R⟩;have ⟨n_p_R, n_R_p⟩ := zne l_p;have o_R : w.heap.size ≤ w.heap.size := Nat.le_refl _;have g_R : 14 < w.heap.size := Nat.lt_trans g_p l_p;have HKw1 := zh (HK0.out.trans Kw1 jg);have HPw1 := zh (HP0.out.keep Kw1);have Rw1_R := zh cw1_R;clear Kw1 cw1_R l_p HK0 HP0;refine zxb ?_;rintro r e2 ⟨rfl, hk⟩;have Re2_R := zh (hk.at Rw1_R.out jg);have HKe2 := zh (HKw1.out.trans hk jg);have HPe2 := zh (HPw1.out.keep hk);clear hk Rw1_R HKw1 HPw1;have l_p := h_lt HPe2.out.row;have l_R := h_lt Re2_R.out
 go_wp2_with fail
 refine jxb ?_;rintro w3 ⟨Kw3, cw3_T⟩;have ⟨n_p_T, n_T_p⟩ := zne l_p;have ⟨n_R_T, n_T_R⟩ := zne l_R;have o_T : w.heap.size ≤ e2.heap.size := HKe2.out.size;have g_T : 14 < e2.heap.size := Nat.lt_trans g_p l_p;have Rw3_R := zh (Kw3.at Re2_R.out jg);have HKw3 := zh (HKe2.out.trans Kw3 jg);have HPw3 := zh (HPe2.out.keep Kw3);have Rw3_T := zh cw3_T;clear Kw3 cw3_T l_p l_R Re2_R HKe2 HPe2;refine (take_any HPw3.out HN_break.out).mono ?_;rintro r e4 ⟨rfl, hp, hk⟩;have Re4_R := zh (hk.at Rw3_R.out jk);have Re4_T := zh (hk.at Rw3_T.out jl);have HKe4 := zh (HKw3.out.trans hk jg);have HPne4 := zh hp;clear hp;clear hk Rw3_R Rw3_T HKw3 HPw3;have l_p := h_lt HPne4.out.row;have l_R := h_lt Re4_R.out;have l_T := h_lt Re4_T.out
 go_wp2_with fail
 clear l_p l_R l_T;refine (take_any HPne4.out HN_continue.out).mono ?_;rintro r e5 ⟨rfl, hp, hk⟩;have Re5_R := zh (hk.at Re4_R.out jk);have Re5_T := zh (hk.at Re4_T.out jl);have HKe5 := zh (HKe4.out.trans hk jg);have HPne5 := zh hp;clear hp;clear hk Re4_R Re4_T HKe4 HPne4;have l_p := h_lt HPne5.out.row;have l_R := h_lt Re5_R.out;have l_T := h_lt Re5_T.out
 go_wp2_with fail
 clear l_p l_R l_T;refine (take_any HPne5.out HX.out).mono ?_;rintro r e6 ⟨rfl, hp, hk⟩;have Re6_R := zh (hk.at Re5_R.out jk);have Re6_T := zh (hk.at Re5_T.out jl);have HKe6 := zh (HKe5.out.trans hk jg);have HPne6 := zh hp;clear hp;clear hk Re5_R Re5_T HKe5 HPne5;have l_p := h_lt HPne6.out.row;obtain ⟨l_R, xR_0, xR_1, xR_2, xR_3, xR_4, yR_0, yR_1, yR_2, yR_3, yR_4⟩ := cf5 Re6_R.out;have l_T := h_lt Re6_T.out
 go_wp2_with fail
 refine ret_at (v := .agg #[.int .i64 38, .string ⟨#[]⟩, .float .f64 0, .slice none 0 0, .complex .f64 (placeOf s fr).1 (placeOf s fr).2]) (fun W => Keeps [w.heap.size] e6 W ∧ W.heap[w.heap.size]? = some (.cells #[.int .i64 38, .string ⟨#[]⟩, .float .f64 0, .slice none 0 0, .complex .f64 (placeOf s fr).1 (placeOf s fr).2] 50 (0, 0))) ⟨zg, (qb Re6_R.out l_R)⟩ (fun w7 hW => ?_) rfl (fun w7 hW => ?_)
 ·obtain ⟨Kw7, cw7_R⟩ := hW;exact jpd
 obtain ⟨Kw7, cw7_R⟩ := hW;have Rw7_T := zh (Kw7.at Re6_T.out qx);have HKw7 := zh (HKe6.out.trans Kw7 zp);have HPw7 := zh (HPne6.out.keepN Kw7 jr zt);have Rw7_R := zh cw7_R;clear Kw7 cw7_R l_p l_R xR_0 xR_1 xR_2 xR_3 xR_4 yR_0 yR_1 yR_2 yR_3 yR_4 l_T Re6_T HKe6 HPne6 Re6_R;exact ⟨_, rfl, .mk .nil, HPw7.out, HKw7.out⟩
theorem simple_expr {s : ByteArray} {p : Nat} {st : PSt} {kd : Int} {tx : ByteArray} {nm fr te : Nat} (ht : nextF s st.pos true = some ⟨kd, tx, nm, fr, te⟩) (hn_break : notF s st ⟨#[98, 114, 101, 97, 107]⟩ = some ()) (hn_continue : notF s st ⟨#[99, 111, 110, 116, 105, 110, 117, 101]⟩ = some ()) (hn_next : notF s st ⟨#[110, 101, 120, 116]⟩ = some ()) (hn_exit : notF s st ⟨#[101, 120, 105, 116]⟩ = some ()) (hn_return : notF s st ⟨#[114, 101, 116, 117, 114, 110]⟩ = some ()) (hn_delete : notF s st ⟨#[100, 101, 108, 101, 116, 101]⟩ = some ()) (hn_print : notF s st ⟨#[112, 114, 105, 110, 116]⟩ = some ()) (hn_printf : notF s st ⟨#[112, 114, 105, 110, 116, 102]⟩ = some ()) {st2 : PSt} {n : Node} (he : Hands s p st st2 n 109) : Hands s p st st2 (.mk 44 ⟨#[]⟩ 0 [n] n.re n.im) 165 := by
 intro w h;have g_p := h.p;have HP0 := zh h; have HK0 := zh (Keeps.refl [p] w); have HT := zh ht; have HN_break := zh (take_not hn_break); have HN_continue := zh (take_not hn_continue); have HN_next := zh (take_not hn_next); have HN_exit := zh (take_not hn_exit); have HN_return := zh (take_not hn_return); have HN_delete := zh (take_not hn_delete); have HN_print := zh (take_not hn_print); have HN_printf := zh (take_not hn_printf); have HE := zh he;clear h ht hn_break hn_continue hn_next hn_exit hn_return hn_delete hn_print hn_printf he
 go_enter Tryz.func165, Tryz.ntmps165
 have l_p := h_lt HP0.out.row
 go_wp2_with fail
 refine qrb ?_;rintro w1 ⟨Kw1, cw1_R⟩;have ⟨n_p_R, n_R_p⟩ := zne l_p;have o_R : w.heap.size ≤ w.heap.size := Nat.le_refl _;have g_R : 14 < w.heap.size := Nat.lt_trans g_p l_p;have HKw1 := zh (HK0.out.trans Kw1 jg);have HPw1 := zh (HP0.out.keep Kw1);have Rw1_R := zh cw1_R;clear Kw1 cw1_R l_p HK0 HP0;refine zxb ?_;rintro r e2 ⟨rfl, hk⟩;have Re2_R := zh (hk.at Rw1_R.out jg);have HKe2 := zh (HKw1.out.trans hk jg);have HPe2 := zh (HPw1.out.keep hk);clear hk Rw1_R HKw1 HPw1;have l_p := h_lt HPe2.out.row;have l_R := h_lt Re2_R.out
 go_wp2_with fail
 refine jxb ?_;rintro w3 ⟨Kw3, cw3_T⟩;have ⟨n_p_T, n_T_p⟩ := zne l_p;have ⟨n_R_T, n_T_R⟩ := zne l_R;have o_T : w.heap.size ≤ e2.heap.size := HKe2.out.size;have g_T : 14 < e2.heap.size := Nat.lt_trans g_p l_p;have Rw3_R := zh (Kw3.at Re2_R.out jg);have HKw3 := zh (HKe2.out.trans Kw3 jg);have HPw3 := zh (HPe2.out.keep Kw3);have Rw3_T := zh cw3_T;clear Kw3 cw3_T l_p l_R Re2_R HKe2 HPe2;refine (take_any HPw3.out HN_break.out).mono ?_;rintro r e4 ⟨rfl, hp, hk⟩;have Re4_R := zh (hk.at Rw3_R.out jk);have Re4_T := zh (hk.at Rw3_T.out jl);have HKe4 := zh (HKw3.out.trans hk jg);have HPne4 := zh hp;clear hp;clear hk Rw3_R Rw3_T HKw3 HPw3;have l_p := h_lt HPne4.out.row;have l_R := h_lt Re4_R.out;have l_T := h_lt Re4_T.out
 go_wp2_with fail
 clear l_p l_R l_T;refine (take_any HPne4.out HN_continue.out).mono ?_;rintro r e5 ⟨rfl, hp, hk⟩;have Re5_R := zh (hk.at Re4_R.out jk);have Re5_T := zh (hk.at Re4_T.out jl);have HKe5 := zh (HKe4.out.trans hk jg);have HPne5 := zh hp;clear hp;clear hk Re4_R Re4_T HKe4 HPne4;have l_p := h_lt HPne5.out.row;have l_R := h_lt Re5_R.out;have l_T := h_lt Re5_T.out
 go_wp2_with fail
 clear l_p l_R l_T;refine (take_any HPne5.out HN_next.out).mono ?_;rintro r e6 ⟨rfl, hp, hk⟩;have Re6_R := zh (hk.at Re5_R.out jk);have Re6_T := zh (hk.at Re5_T.out jl);have HKe6 := zh (HKe5.out.trans hk jg);have HPne6 := zh hp;clear hp;clear hk Re5_R Re5_T HKe5 HPne5;have l_p := h_lt HPne6.out.row;have l_R := h_lt Re6_R.out;have l_T := h_lt Re6_T.out
 go_wp2_with fail
 clear l_p l_R l_T;refine (take_any HPne6.out HN_exit.out).mono ?_;rintro r e7 ⟨rfl, hp, hk⟩;have Re7_R := zh (hk.at Re6_R.out jk);have Re7_T := zh (hk.at Re6_T.out jl);have HKe7 := zh (HKe6.out.trans hk jg);have HPne7 := zh hp;clear hp;clear hk Re6_R Re6_T HKe6 HPne6;have l_p := h_lt HPne7.out.row;have l_R := h_lt Re7_R.out;have l_T := h_lt Re7_T.out
 go_wp2_with fail
 clear l_p l_R l_T;refine (take_any HPne7.out HN_return.out).mono ?_;rintro r e8 ⟨rfl, hp, hk⟩;have Re8_R := zh (hk.at Re7_R.out jk);have Re8_T := zh (hk.at Re7_T.out jl);have HKe8 := zh (HKe7.out.trans hk jg);have HPne8 := zh hp;clear hp;clear hk Re7_R Re7_T HKe7 HPne7;have l_p := h_lt HPne8.out.row;have l_R := h_lt Re8_R.out;have l_T := h_lt Re8_T.out
 go_wp2_with fail
 clear l_p l_R l_T;refine (take_any HPne8.out HN_delete.out).mono ?_;rintro r e9 ⟨rfl, hp, hk⟩;have Re9_R := zh (hk.at Re8_R.out jk);have Re9_T := zh (hk.at Re8_T.out jl);have HKe9 := zh (HKe8.out.trans hk jg);have HPne9 := zh hp;clear hp;clear hk Re8_R Re8_T HKe8 HPne8;have l_p := h_lt HPne9.out.row;have l_R := h_lt Re9_R.out;have l_T := h_lt Re9_T.out
 go_wp2_with fail
 clear l_p l_R l_T;refine (take_any HPne9.out HN_print.out).mono ?_;rintro r e10 ⟨rfl, hp, hk⟩;have Re10_R := zh (hk.at Re9_R.out jk);have Re10_T := zh (hk.at Re9_T.out jl);have HKe10 := zh (HKe9.out.trans hk jg);have HPne10 := zh hp;clear hp;clear hk Re9_R Re9_T HKe9 HPne9;have l_p := h_lt HPne10.out.row;have l_R := h_lt Re10_R.out;have l_T := h_lt Re10_T.out
 go_wp2_with fail
 clear l_p l_R l_T;refine (take_any HPne10.out HN_printf.out).mono ?_;rintro r e11 ⟨rfl, hp, hk⟩;have Re11_R := zh (hk.at Re10_R.out jk);have Re11_T := zh (hk.at Re10_T.out jl);have HKe11 := zh (HKe10.out.trans hk jg);have HPne11 := zh hp;clear hp;clear hk Re10_R Re10_T HKe10 HPne10;have l_p := h_lt HPne11.out.row;have l_R := h_lt Re11_R.out;have l_T := h_lt Re11_T.out
 go_wp2_with fail
 clear l_p l_R l_T;refine (HE.out _ HPne11.out).mono ?_;rintro r e12 ⟨v, rfl, hn, hp, hk⟩;have Re12_R := zh (hk.at Re11_R.out jk);have Re12_T := zh (hk.at Re11_T.out jl);have HKe12 := zh (HKe11.out.trans hk jg);have HPne12 := zh hp;have ne12 := zh hn.seg;have o_n : w.heap.size ≤ e11.heap.size := HKe11.out.size;have ns_n_p : ¬ (Seg e11.heap.size e12.heap.size) (p) := fun h => Nat.not_lt_of_le h.1 (h_lt HPne11.out.row)
 have ns_n_R : ¬ (Seg e11.heap.size e12.heap.size) (w.heap.size) := fun h => Nat.not_lt_of_le h.1 (h_lt Re11_R.out)
 have ns_n_T : ¬ (Seg e11.heap.size e12.heap.size) (e2.heap.size) := fun h => Nat.not_lt_of_le h.1 (h_lt Re11_T.out)
 have up_n : ∀ g, (Seg e11.heap.size e12.heap.size) g → g < e12.heap.size := fun _ h => h.2
 have dn_n : ∀ g, (Seg e11.heap.size e12.heap.size) g → w.heap.size ≤ g := fun _ h => Nat.le_trans o_n h.1
 obtain ⟨nt, nm, na, nl, nc, nr, ni, rfl, -, -⟩ := hn.shape;clear hn hp;clear hk Re11_R Re11_T HKe11 HPne11;have l_p := h_lt HPne12.out.row;have l_p_1 : p < e12.heap.size + 1 := Nat.lt_add_right 1 l_p;obtain ⟨l_R, xR_0, xR_1, xR_2, xR_3, xR_4, yR_0, yR_1, yR_2, yR_3, yR_4⟩ := cf5 Re12_R.out;have l_R_1 : w.heap.size < e12.heap.size + 1 := Nat.lt_add_right 1 l_R;have l_T := h_lt Re12_T.out;have l_T_1 : e2.heap.size < e12.heap.size + 1 := Nat.lt_add_right 1 l_T
 go_wp2_with fail
 refine ret_at (v := .agg #[.int .i64 44, .string ⟨#[]⟩, .float .f64 0, .slice (some ⟨e12.heap.size + 1, 0, none⟩) 1 1, .complex .f64 nr ni]) (fun W => Keeps [w.heap.size] e12 W ∧ W.heap[w.heap.size]? = some (.cells #[.int .i64 44, .string ⟨#[]⟩, .float .f64 0, .slice (some ⟨e12.heap.size + 1, 0, none⟩) 1 1, .complex .f64 nr ni] 50 (0, 0)) ∧ W.heap[e12.heap.size]? = some (.cells #[.int .i64 n.kind, .string nt, .float .f64 nm, .slice na nl nc, .complex .f64 nr ni] 50 (0, 0)) ∧ W.heap[e12.heap.size + 1]? = some (.cells #[.int .i64 n.kind, .string nt, .float .f64 nm, .slice na nl nc, .complex .f64 nr ni] 50 (0, 0))) ⟨zg, (jc Re12_R.out l_R), (jc Re12_R.out l_R), (jc Re12_R.out l_R)⟩ (fun w13 hW => ?_) rfl (fun w13 hW => ?_)
 ·obtain ⟨Kw13, cw13_R, cw13_B, cw13_G⟩ := hW;have q0 := cell_of_heap cw13_R 0;have q1 := cell_of_heap cw13_R 1;have q2 := cell_of_heap cw13_R 2;have q3 := cell_of_heap cw13_R 3;have q4 := cell_of_heap cw13_R 4;simp at q0 q1 q2 q3 q4;exact jsb
 obtain ⟨Kw13, cw13_R, cw13_B, cw13_G⟩ := hW;have ⟨n_p_B, n_B_p⟩ := zne l_p;have ⟨n_R_B, n_B_R⟩ := zne l_R;have ⟨n_T_B, n_B_T⟩ := zne l_T;have o_B : w.heap.size ≤ e12.heap.size := HKe12.out.size;have g_B : 14 < e12.heap.size := Nat.lt_trans g_p l_p;have ns_n_B : ¬ (Seg e11.heap.size e12.heap.size) (e12.heap.size) := fun h => Nat.not_lt_of_le ((Nat.le_refl e12.heap.size)) (up_n _ h)
 have ⟨n_p_G, n_G_p⟩ := zne (Nat.lt_add_right 1 l_p);have ⟨n_R_G, n_G_R⟩ := zne (Nat.lt_add_right 1 l_R);have ⟨n_T_G, n_G_T⟩ := zne (Nat.lt_add_right 1 l_T);have n_B_G : e12.heap.size ≠ e12.heap.size + 1 := by simp
 have n_G_B : e12.heap.size + 1 ≠ e12.heap.size := by simp
 have o_G : w.heap.size ≤ e12.heap.size + 1 := Nat.le_trans (HKe12.out.size) (Nat.le_add_right _ 1);have g_G : 14 < e12.heap.size + 1 := Nat.lt_trans g_p (Nat.lt_add_right 1 l_p);have ns_n_G : ¬ (Seg e11.heap.size e12.heap.size) (e12.heap.size + 1) := fun h => Nat.not_lt_of_le (Nat.le_add_right_of_le (Nat.le_refl e12.heap.size)) (up_n _ h)
 have Rw13_T := zh (Kw13.at Re12_T.out qx);have HKw13 := zh (HKe12.out.trans Kw13 zp);have HPw13 := zh (HPne12.out.keepN Kw13 jr zt);have nw13 := zh (ne12.out.kp Kw13 jw);have us_nw13 := Nat.le_trans (Nat.le_refl e12.heap.size) Kw13.size;have Rw13_R := zh cw13_R;have Rw13_B := zh cw13_B;have Rw13_G := zh cw13_G;clear Kw13 cw13_R cw13_B cw13_G l_p l_p_1 l_R l_R_1 xR_0 xR_1 xR_2 xR_3 xR_4 yR_0 yR_1 yR_2 yR_3 yR_4 l_T l_T_1 Re12_T HKe12 HPne12 ne12 Re12_R;have hri := nw13.out.reim;rw [← hri.1, ← hri.2];exact ⟨_, rfl, .mk (.some (S := fun g => w.heap.size ≤ g) o_G (h_lt Rw13_G.out) (row1 nw13.out dn_n Rw13_G.out)), HPw13.out, HKw13.out⟩
theorem end_brace {s : ByteArray} {p : Nat} {st : PSt} {w : World} (h : PP s p st w) {kd : Int} {tx : ByteArray} {nm fr te : Nat} (ht : nextF s st.pos false = some ⟨kd, tx, nm, fr, te⟩) (n0 : (kd == 0) = false) (hb : isF s st ⟨#[125]⟩ = some true) : Calls Tryz.prog 163 #[.pointer (some ⟨p, 0, none⟩)] w fun r w' => r = .returned (.tuple #[]) ∧ PP s p st w' ∧ Keeps [p] w w' := by
 have g_p := h.p;obtain ⟨le1, le2, -⟩ := nextF_le ht h.le;simp only at le1 le2;have HP0 := zh h; have HK0 := zh (Keeps.refl [p] w); have HT := zh ht; have HB := zh hb;clear h ht hb
 go_enter Tryz.func163, Tryz.ntmps163
 have l_p := h_lt HP0.out.row
 go_wp2_with fail
 clear l_p;refine (see_any HP0.out HT.out).mono ?_;rintro r e1 ⟨rfl, hk⟩;have HKe1 := zh (HK0.out.trans hk jg);have HPe1 := zh (HP0.out.keep hk);clear hk HK0 HP0;have l_p := h_lt HPe1.out.row
 go_wp2_with fail
 refine calls_at (fun W => Keeps [] e1 W ∧ W.heap[e1.heap.size]? = some (.cells #[.int .i64 kd, .string tx, .float .f64 nm, .int .i64 fr, .int .i64 te] 90 (0, 0))) ⟨zg, zb⟩ ?_;rintro w2 ⟨Kw2, cw2_T⟩;have ⟨n_p_T, n_T_p⟩ := zne l_p;have o_T : w.heap.size ≤ e1.heap.size := HKe1.out.size;have g_T : 14 < e1.heap.size := Nat.lt_trans g_p l_p;have HKw2 := zh (HKe1.out.trans Kw2 jg);have HPw2 := zh (HPe1.out.keep Kw2);have Rw2_T := zh cw2_T;clear Kw2 cw2_T l_p HKe1 HPe1;refine (ok_any HPw2.out).mono ?_;rintro r w' ⟨rfl, hw'⟩;rw [hw'];clear hw';have l_p := h_lt HPw2.out.row;obtain ⟨l_T, xT_0, xT_1, xT_2, xT_3, xT_4, yT_0, yT_1, yT_2, yT_3, yT_4⟩ := cf5 Rw2_T.out
 go_wp2_with fail
 clear l_p l_T xT_0 xT_1 xT_2 xT_3 xT_4 yT_0 yT_1 yT_2 yT_3 yT_4;refine (isF_any HPw2.out HB.out).mono ?_;rintro r e3 ⟨rfl, hk⟩;have Re3_T := zh (hk.at Rw2_T.out jg);have HKe3 := zh (HKw2.out.trans hk jg);have HPe3 := zh (HPw2.out.keep hk);clear hk Rw2_T HKw2 HPw2;have l_p := h_lt HPe3.out.row;have l_T := h_lt Re3_T.out
 go_wp2_with fail
 refine ret_at (v := .tuple #[]) (fun W => Keeps [] e3 W) zg (fun w4 hW => ?_) rfl (fun w4 hW => ?_)
 ·have Kw4 : Keeps [] e3 w4 := hW;exact jnb
 have Kw4 : Keeps [] e3 w4 := hW;have Rw4_T := zh (Kw4.at Re3_T.out jg);have HKw4 := zh (HKe3.out.trans Kw4 jg);have HPw4 := zh (HPe3.out.keep Kw4);clear Kw4 l_p l_T Re3_T HKe3 HPe3;exact ⟨rfl, HPw4.out, HKw4.out⟩
theorem end_semi {s : ByteArray} {p : Nat} {st : PSt} {w : World} (h : PP s p st w) {kd : Int} {tx : ByteArray} {nm fr te : Nat} (ht : nextF s st.pos false = some ⟨9, tx, nm, fr, te⟩) (hb : isF s st ⟨#[125]⟩ = some false) (htx : (tx.toList == [59]) = true) : Calls Tryz.prog 163 #[.pointer (some ⟨p, 0, none⟩)] w fun r w' => r = .returned (.tuple #[]) ∧ PP s p ⟨te, st.opn, st.ng⟩ w' ∧ Keeps [p] w w' := by
 have g_p := h.p;obtain ⟨le1, le2, -⟩ := nextF_le ht h.le;simp only at le1 le2;have HP0 := zh h; have HK0 := zh (Keeps.refl [p] w); have HT := zh ht; have HB := zh hb;clear h ht hb
 go_enter Tryz.func163, Tryz.ntmps163
 have l_p := h_lt HP0.out.row
 go_wp2_with fail
 clear l_p;refine (see_any HP0.out HT.out).mono ?_;rintro r e1 ⟨rfl, hk⟩;have HKe1 := zh (HK0.out.trans hk jg);have HPe1 := zh (HP0.out.keep hk);clear hk HK0 HP0;have l_p := h_lt HPe1.out.row
 go_wp2_with fail
 refine jtb ?_;rintro w2 ⟨Kw2, cw2_T⟩;have ⟨n_p_T, n_T_p⟩ := zne l_p;have o_T : w.heap.size ≤ e1.heap.size := HKe1.out.size;have g_T : 14 < e1.heap.size := Nat.lt_trans g_p l_p;have HKw2 := zh (HKe1.out.trans Kw2 jg);have HPw2 := zh (HPe1.out.keep Kw2);have Rw2_T := zh cw2_T;clear Kw2 cw2_T l_p HKe1 HPe1;refine (ok_any HPw2.out).mono ?_;rintro r w' ⟨rfl, hw'⟩;rw [hw'];clear hw';have l_p := h_lt HPw2.out.row;obtain ⟨l_T, xT_0, xT_1, xT_2, xT_3, xT_4, yT_0, yT_1, yT_2, yT_3, yT_4⟩ := cf5 Rw2_T.out
 go_wp2_with fail
 clear l_p l_T xT_0 xT_1 xT_2 xT_3 xT_4 yT_0 yT_1 yT_2 yT_3 yT_4;refine (isF_any HPw2.out HB.out).mono ?_;rintro r e3 ⟨rfl, hk⟩;have Re3_T := zh (hk.at Rw2_T.out jg);have HKe3 := zh (HKw2.out.trans hk jg);have HPe3 := zh (HPw2.out.keep hk);clear hk Rw2_T HKw2 HPw2;obtain ⟨l_p, xp_0, xp_1, xp_2, xp_3, xp_4, xp_5, yp_0, yp_1, yp_2, yp_3, yp_4, yp_5⟩ := cf6 HPe3.out.row;obtain ⟨l_T, xT_0, xT_1, xT_2, xT_3, xT_4, yT_0, yT_1, yT_2, yT_3, yT_4⟩ := cf5 Re3_T.out
 go_wp2_with fail
 refine end_at (v := .tuple #[]) (fun W => Keeps [p] e3 W ∧ W.heap[p]? = some (.cells #[.string s, .int .i64 te, .int .i64 st.opn, .bool st.ng, .int .i64 0, .complex .f64 0 0] 87 (0, 0))) ⟨zg, (qb HPe3.out.row l_p)⟩ (fun w4 hW => ?_) rfl (fun w4 hW => ?_)
 ·obtain ⟨Kw4, cw4_p⟩ := hW;exact jnb
 obtain ⟨Kw4, cw4_p⟩ := hW;have Rw4_T := zh (Kw4.at Re3_T.out jl);have HKw4 := zh (HKe3.out.trans Kw4 jg);have HPw4 : Hid (PP s p ⟨te, st.opn, st.ng⟩ w4) := zh (HPe3.out.upd Kw4 qcb cw4_p (by first | assumption | exact HPe3.out.le) HPe3.out.ob);clear Kw4 cw4_p l_p xp_0 xp_1 xp_2 xp_3 xp_4 xp_5 yp_0 yp_1 yp_2 yp_3 yp_4 yp_5 l_T xT_0 xT_1 xT_2 xT_3 xT_4 yT_0 yT_1 yT_2 yT_3 yT_4 Re3_T HKe3 HPe3;exact ⟨rfl, HPw4.out, HKw4.out⟩
theorem end_any {s : ByteArray} {p : Nat} {st st' : PSt} {w : World} (h : PP s p st w) (hx : endF s st = some st') : Calls Tryz.prog 163 #[.pointer (some ⟨p, 0, none⟩)] w fun r w' => r = .returned (.tuple #[]) ∧ PP s p st' w' ∧ Keeps [p] w w' := by
 unfold endF at hx
 cases ht : nextF s st.pos false with
 | none => rw [ht] at hx; simp at hx
 | some t =>
  rw [ht] at hx;obtain ⟨kd, tx, nm, fr, te⟩ := t;simp only [Option.bind_eq_bind, Option.bind_some] at hx
  by_cases h0 : kd = 0
  ·subst h0;rw [if_pos rfl] at hx
   cases hx
  rw [if_neg h0] at hx
  cases hb : isF s st (bs [125]) with
  | none => rw [hb] at hx; simp at hx
  | some b =>
   rw [hb] at hx;simp only [Option.bind_some] at hx
   cases b with
   | true =>
    simp only [if_true, Option.some.injEq] at hx;subst hx;exact end_brace h ht (beq_false_of_ne h0) hb
   | false =>
    simp only [Bool.false_eq_true, if_false] at hx
    split at hx
    ·rename_i hc;obtain rfl := Option.some.inj hx;obtain ⟨rfl, hs⟩ := hc;refine end_semi (kd := 0) h ht hb ?_;rw [← same_eq] at hs
     rwa [show (bs [59]).toList = [59] from by rw [bs, ByteArray.toList_mk]] at hs
    cases hx
theorem stmt_lv {s : ByteArray} {p : Nat} {st st2 st3 : PSt} {n : Node} {kd : Int} {tx : ByteArray} {nm fr te : Nat} (ht : nextF s st.pos true = some ⟨kd, tx, nm, fr, te⟩) (hb : notF s st ⟨#[123]⟩ = some ()) (hn_if : notF s st ⟨#[105, 102]⟩ = some ()) (hn_while : notF s st ⟨#[119, 104, 105, 108, 101]⟩ = some ()) (hn_do : notF s st ⟨#[100, 111]⟩ = some ()) (hn_for : notF s st ⟨#[102, 111, 114]⟩ = some ()) (hs : Hands s p st st2 n 165) (he : endF s st2 = some st3) : Hands s p st st3 n 127 := by
 intro w h;have g_p := h.p;have HP0 := zh h; have HK0 := zh (Keeps.refl [p] w); have HT := zh ht; have HB := zh hb; have HS1 := zh hs; have HE := zh he; have HN_if := zh (take_not hn_if); have HN_while := zh (take_not hn_while); have HN_do := zh (take_not hn_do); have HN_for := zh (take_not hn_for);clear h ht hb hs he hn_if hn_while hn_do hn_for
 go_enter Tryz.func127, Tryz.ntmps127
 have l_p := h_lt HP0.out.row
 go_wp2_with fail
 refine qrb ?_;rintro w1 ⟨Kw1, cw1_R⟩;have ⟨n_p_R, n_R_p⟩ := zne l_p;have o_R : w.heap.size ≤ w.heap.size := Nat.le_refl _;have g_R : 14 < w.heap.size := Nat.lt_trans g_p l_p;have HKw1 := zh (HK0.out.trans Kw1 jg);have HPw1 := zh (HP0.out.keep Kw1);have Rw1_R := zh cw1_R;clear Kw1 cw1_R l_p HK0 HP0;refine zxb ?_;rintro r e2 ⟨rfl, hk⟩;have Re2_R := zh (hk.at Rw1_R.out jg);have HKe2 := zh (HKw1.out.trans hk jg);have HPe2 := zh (HPw1.out.keep hk);clear hk Rw1_R HKw1 HPw1;have l_p := h_lt HPe2.out.row;have l_R := h_lt Re2_R.out
 go_wp2_with fail
 refine jxb ?_;rintro w3 ⟨Kw3, cw3_T⟩;have ⟨n_p_T, n_T_p⟩ := zne l_p;have ⟨n_R_T, n_T_R⟩ := zne l_R;have o_T : w.heap.size ≤ e2.heap.size := HKe2.out.size;have g_T : 14 < e2.heap.size := Nat.lt_trans g_p l_p;have Rw3_R := zh (Kw3.at Re2_R.out jg);have HKw3 := zh (HKe2.out.trans Kw3 jg);have HPw3 := zh (HPe2.out.keep Kw3);have Rw3_T := zh cw3_T;clear Kw3 cw3_T l_p l_R Re2_R HKe2 HPe2;refine (is_not HPw3.out HB.out).mono ?_;rintro r e4 ⟨rfl, hk⟩;have Re4_R := zh (hk.at Rw3_R.out jg);have Re4_T := zh (hk.at Rw3_T.out jg);have HKe4 := zh (HKw3.out.trans hk jg);have HPe4 := zh (HPw3.out.keep hk);clear hk Rw3_R Rw3_T HKw3 HPw3;have l_p := h_lt HPe4.out.row;have l_R := h_lt Re4_R.out;have l_T := h_lt Re4_T.out
 go_wp2_with fail
 clear l_p l_R l_T;refine (take_any HPe4.out HN_if.out).mono ?_;rintro r e5 ⟨rfl, hp, hk⟩;have Re5_R := zh (hk.at Re4_R.out jk);have Re5_T := zh (hk.at Re4_T.out jl);have HKe5 := zh (HKe4.out.trans hk jg);have HPne5 := zh hp;clear hp;clear hk Re4_R Re4_T HKe4 HPe4;have l_p := h_lt HPne5.out.row;have l_R := h_lt Re5_R.out;have l_T := h_lt Re5_T.out
 go_wp2_with fail
 clear l_p l_R l_T;refine (take_any HPne5.out HN_while.out).mono ?_;rintro r e6 ⟨rfl, hp, hk⟩;have Re6_R := zh (hk.at Re5_R.out jk);have Re6_T := zh (hk.at Re5_T.out jl);have HKe6 := zh (HKe5.out.trans hk jg);have HPne6 := zh hp;clear hp;clear hk Re5_R Re5_T HKe5 HPne5;have l_p := h_lt HPne6.out.row;have l_R := h_lt Re6_R.out;have l_T := h_lt Re6_T.out
 go_wp2_with fail
 clear l_p l_R l_T;refine (take_any HPne6.out HN_do.out).mono ?_;rintro r e7 ⟨rfl, hp, hk⟩;have Re7_R := zh (hk.at Re6_R.out jk);have Re7_T := zh (hk.at Re6_T.out jl);have HKe7 := zh (HKe6.out.trans hk jg);have HPne7 := zh hp;clear hp;clear hk Re6_R Re6_T HKe6 HPne6;have l_p := h_lt HPne7.out.row;have l_R := h_lt Re7_R.out;have l_T := h_lt Re7_T.out
 go_wp2_with fail
 clear l_p l_R l_T;refine (take_any HPne7.out HN_for.out).mono ?_;rintro r e8 ⟨rfl, hp, hk⟩;have Re8_R := zh (hk.at Re7_R.out jk);have Re8_T := zh (hk.at Re7_T.out jl);have HKe8 := zh (HKe7.out.trans hk jg);have HPne8 := zh hp;clear hp;clear hk Re7_R Re7_T HKe7 HPne7;have l_p := h_lt HPne8.out.row;have l_R := h_lt Re8_R.out;have l_T := h_lt Re8_T.out
 go_wp2_with fail
 clear l_p l_R l_T;refine (HS1.out _ HPne8.out).mono ?_;rintro r e9 ⟨v, rfl, hn, hp, hk⟩;have Re9_R := zh (hk.at Re8_R.out jk);have Re9_T := zh (hk.at Re8_T.out jl);have HKe9 := zh (HKe8.out.trans hk jg);have HPne9 := zh hp;have ne9 := zh hn.seg;have o_n : w.heap.size ≤ e8.heap.size := HKe8.out.size;have ns_n_p : ¬ (Seg e8.heap.size e9.heap.size) (p) := fun h => Nat.not_lt_of_le h.1 (h_lt HPne8.out.row)
 have ns_n_R : ¬ (Seg e8.heap.size e9.heap.size) (w.heap.size) := fun h => Nat.not_lt_of_le h.1 (h_lt Re8_R.out)
 have ns_n_T : ¬ (Seg e8.heap.size e9.heap.size) (e2.heap.size) := fun h => Nat.not_lt_of_le h.1 (h_lt Re8_T.out)
 have up_n : ∀ g, (Seg e8.heap.size e9.heap.size) g → g < e9.heap.size := fun _ h => h.2
 have dn_n : ∀ g, (Seg e8.heap.size e9.heap.size) g → w.heap.size ≤ g := fun _ h => Nat.le_trans o_n h.1
 obtain ⟨nt, nm, na, nl, nc, nr, ni, rfl, -, -⟩ := hn.shape;clear hn hp;clear hk Re8_R Re8_T HKe8 HPne8;have l_p := h_lt HPne9.out.row;have l_R := h_lt Re9_R.out;have l_T := h_lt Re9_T.out
 go_wp2_with fail
 refine calls_at (fun W => Keeps [] e9 W ∧ W.heap[e9.heap.size]? = some (.cells #[.int .i64 n.kind, .string nt, .float .f64 nm, .slice na nl nc, .complex .f64 nr ni] 50 (0, 0))) ⟨zg, zb⟩ ?_;rintro w10 ⟨Kw10, cw10_B⟩;have ⟨n_p_B, n_B_p⟩ := zne l_p;have ⟨n_R_B, n_B_R⟩ := zne l_R;have ⟨n_T_B, n_B_T⟩ := zne l_T;have o_B : w.heap.size ≤ e9.heap.size := HKe9.out.size;have g_B : 14 < e9.heap.size := Nat.lt_trans g_p l_p;have ns_n_B : ¬ (Seg e8.heap.size e9.heap.size) (e9.heap.size) := fun h => Nat.not_lt_of_le ((Nat.le_refl e9.heap.size)) (up_n _ h)
 have Rw10_R := zh (Kw10.at Re9_R.out jg);have Rw10_T := zh (Kw10.at Re9_T.out jg);have HKw10 := zh (HKe9.out.trans Kw10 jg);have HPw10 := zh (HPne9.out.keep Kw10);have nw10 := zh (ne9.out.kp Kw10 jg);have us_nw10 := Nat.le_trans (Nat.le_refl e9.heap.size) Kw10.size;have Rw10_B := zh cw10_B;clear Kw10 cw10_B l_p l_R l_T Re9_R Re9_T HKe9 HPne9 ne9;refine (end_any HPw10.out HE.out).mono ?_;rintro r e11 ⟨rfl, hp, hk⟩;have Re11_R := zh (hk.at Rw10_R.out jk);have Re11_T := zh (hk.at Rw10_T.out jl);have Re11_B := zh (hk.at Rw10_B.out zr);have HKe11 := zh (HKw10.out.trans hk jg);have ne11 := zh (nw10.out.kp hk qz);have us_ne11 := Nat.le_trans us_nw10 hk.size;have HPne11 := zh hp;clear hp;clear hk Rw10_R Rw10_T Rw10_B HKw10 nw10 us_nw10 HPw10;have l_p := h_lt HPne11.out.row;obtain ⟨l_R, xR_0, xR_1, xR_2, xR_3, xR_4, yR_0, yR_1, yR_2, yR_3, yR_4⟩ := cf5 Re11_R.out;have l_T := h_lt Re11_T.out;obtain ⟨l_B, xB_0, xB_1, xB_2, xB_3, xB_4, yB_0, yB_1, yB_2, yB_3, yB_4⟩ := cf5 Re11_B.out
 go_wp2_with fail
 refine ret_at (v := .agg #[.int .i64 n.kind, .string nt, .float .f64 nm, .slice na nl nc, .complex .f64 nr ni]) (fun W => Keeps [w.heap.size] e11 W ∧ W.heap[w.heap.size]? = some (.cells #[.int .i64 n.kind, .string nt, .float .f64 nm, .slice na nl nc, .complex .f64 nr ni] 50 (0, 0))) ⟨zg, (qb Re11_R.out l_R)⟩ (fun w12 hW => ?_) rfl (fun w12 hW => ?_)
 ·obtain ⟨Kw12, cw12_R⟩ := hW;have q0 := cell_of_heap cw12_R 0;have q1 := cell_of_heap cw12_R 1;have q2 := cell_of_heap cw12_R 2;have q3 := cell_of_heap cw12_R 3;have q4 := cell_of_heap cw12_R 4;simp at q0 q1 q2 q3 q4;exact jsb
 obtain ⟨Kw12, cw12_R⟩ := hW;have Rw12_T := zh (Kw12.at Re11_T.out qx);have Rw12_B := zh (Kw12.at Re11_B.out jx);have HKw12 := zh (HKe11.out.trans Kw12 zp);have HPw12 := zh (HPne11.out.keepN Kw12 jr zt);have nw12 := zh (ne11.out.kp Kw12 jw);have us_nw12 := Nat.le_trans us_ne11 Kw12.size;have Rw12_R := zh cw12_R;clear Kw12 cw12_R l_p l_R xR_0 xR_1 xR_2 xR_3 xR_4 yR_0 yR_1 yR_2 yR_3 yR_4 l_T l_B xB_0 xB_1 xB_2 xB_3 xB_4 yB_0 yB_1 yB_2 yB_3 yB_4 Re11_T Re11_B HKe11 HPne11 ne11 us_ne11 Re11_R;exact ⟨_, rfl, nw12.out.to dn_n, HPw12.out, HKw12.out⟩
end Go.Proofs.YtkfillfkbhbbjaaGreatDoor
