/- PrgE, NamA, CK, NamB. -/
import Derived.Test.YtkfillfkbhbbjaaGreatDoorPrgD
import Derived.Test.YtkfillfkbhbbjaaGreatDoorNSpec
set_option maxRecDepth 100000
set_option maxHeartbeats 4000000
set_option linter.unusedSimpArgs false
set_option linter.unusedVariables false
namespace Go.Proofs.YtkfillfkbhbbjaaGreatDoor
open Go.RowKit
def ParseI (s : ByteArray) (p gb : Nat) (w : World) (rec : Rec) (g' : ProgP) (g : Nat) (W : World) : Prop :=
 ∃ (rs : List RuleP) (fs : List FuncP) (st : PSt), itemsF s rec g ⟨rs, fs⟩ st = some g' ∧ rs.length + fs.length + g ≤ 100 ∧ ProgI s p gb w rs fs st W
theorem itemsF_succ {s : ByteArray} {rec : Rec} {f : Nat} {rs : List RuleP} {fs : List FuncP} {st : PSt} {g' : ProgP} (h : itemsF s rec (f + 1) ⟨rs, fs⟩ st = some g') : ∃ st1 t, linesA s st (bs [59]) = some st1 ∧ nextF s st1.pos true = some t ∧
  ((t.kind = 0 ∧ g' = ⟨rs, fs⟩) ∨ (t.kind ≠ 0 ∧ ∃ g2 st2, (do
   let b ← isF s st1 (bs [102, 117, 110, 99, 116, 105, 111, 110])
   if b then none
   else do
    let (x, st) ← ruleF s rec st1
    some ((⟨rs ++ [x], fs⟩ : ProgP), st)) = some (g2, st2) ∧ g2.rules.length + g2.funcs.length = rs.length + fs.length + 1 ∧ itemsF s rec f g2 st2 = some g')) := by
 rw [itemsF] at h;simp only [Option.bind_eq_bind, Option.bind_eq_some_iff] at h;obtain ⟨st1, h1, t, h2, h⟩ := h;refine ⟨st1, t, h1, h2, ?_⟩
 by_cases h0 : t.kind = 0
 ·rw [if_pos h0] at h;exact zic
 rw [if_neg h0] at h;simp only [Option.bind_eq_some_iff] at h;obtain ⟨b, h3, h⟩ := h;refine .inr ⟨h0, ?_⟩
 cases b with
 | true =>
  simp at h
 | false =>
  simp only [Bool.false_eq_true, if_false, Option.bind_eq_some_iff, Prod.exists] at h;obtain ⟨x, st3, h4, h⟩ := h;exact ⟨_, _, by simp [h3, h4], by simp; omega, h⟩
theorem parse_any {s : ByteArray} {g' : ProgP} {w : World} (hg : Gl w) (hx : parseF s = some g') : Calls Tryz.prog 21 #[.string s] w fun r w' => ∃ v, r = .returned (.tuple #[v, .complex .f64 0 0, .int .i64 0]) ∧ ProgV w' (fun g => w.heap.size ≤ g) g' v ∧ Keeps [] w w' := by
 unfold parseF at hx
 split at hx
 rotate_left
 ·cases hx
 rename_i hsz;have hsz2 : (s.size : Int) ≤ 4096 := by omega
 have g_00 := hg.2.2;have HG0 := zh hg; have HG := zh hx; have HK0 := zh (Keeps.refl [] w);clear hg hx
 go_enter Tryz.func21, Tryz.ntmps21
 go_upto_region 3 with fail
 refine wp_at (fun W => Keeps [] w W ∧ W.heap[w.heap.size]? = some (.cells #[.slice none 0 0, .slice none 0 0] 33 (0, 0))) ⟨zg, zb⟩ ?_;rintro w1 ⟨Kw1, cw1_R⟩;have o_R : w.heap.size ≤ w.heap.size := Nat.le_refl _;have HKw1 := zh (HK0.out.trans Kw1 jg);have Rw1_R := zh cw1_R;clear Kw1 cw1_R HK0;have HGl := zh (HG0.out.keep HKw1.out jg);have HK1 := zh (Keeps.refl [] w1);have g_0 : 14 < w1.heap.size := Nat.lt_of_lt_of_le g_00 HKw1.out.size;have HR1 := zh Rw1_R.out;have l_R := h_lt Rw1_R.out;have l_R_1 : w.heap.size < w1.heap.size + 1 := Nat.lt_add_right 1 l_R
 go_wp2_with fail
 refine wp_at (fun W => Keeps [] w1 W ∧ W.heap[w1.heap.size]? = some (.cells #[.string s, .int .i64 0, .int .i64 0, .bool false, .int .i64 0, .complex .f64 0 0] 87 (0, 0)) ∧ W.heap[w1.heap.size + 1]? = some (.cells #[.slice none 0 0, .slice none 0 0] 33 (0, 0))) ⟨zg, zd, zd⟩ ?_;rintro w21 ⟨Kw21, cw21_p, cw21_g⟩;have ⟨n_R_p, n_p_R⟩ := zne l_R;have o_p : w1.heap.size ≤ w1.heap.size := Nat.le_refl _;have ⟨n_R_g, n_g_R⟩ := zne (Nat.lt_add_right 1 l_R);have n_p_g : w1.heap.size ≠ w1.heap.size + 1 := by simp
 have n_g_p : w1.heap.size + 1 ≠ w1.heap.size := by simp
 have o_g : w1.heap.size ≤ w1.heap.size + 1 := Nat.le_trans (Nat.le_refl _) (Nat.le_add_right _ 1);have Rw21_R := zh (Kw21.at Rw1_R.out jg);have HKw21 := zh (HK1.out.trans Kw21 jg);have Rw21_p := zh cw21_p;have Rw21_g := zh cw21_g;clear Kw21 cw21_p cw21_g l_R l_R_1 Rw1_R HK1;have hpp : PP s (w1.heap.size) ⟨0, 0, false⟩ w21 := ⟨HGl.out.keep (fp := []) HKw21.out jg, Rw21_p.out, g_0, hsz, Nat.zero_le _, by decide⟩
 go_loopg [] 50 (fun g wr => ParseI s (w1.heap.size) (w1.heap.size + 1) w1 (parN s 100) g' g wr)
 case atStart => exact ⟨[], [], ⟨0, 0, false⟩, HG.out, by simp, _, _, fun _ => False, fun _ => False, 0, OwnL.nil, OwnL.nil, fun _ h => h.elim, fun _ h => h.elim, Nat.zero_le _, fun _ h => h.elim, fun _ h => h.elim, fun _ h => h.elim, fun h => h, fun h => h, fun h => h, fun h => h, n_p_g, o_p, o_g, hpp, HKw21.out, Rw21_g.out⟩
 clear HG hpp;obtain ⟨rs, fs, st1, hG, hlen, v1, v2, T1, T2, U, h1, h2, up_x, up_y, us_x, dn_x, dn_y, dj_x_y, ns_x_p, ns_y_p, ns_x_g, ns_y_g, n_p_g, o_p, o_g, hp, hk, hg⟩ := hrel;obtain ⟨a1, c1, rfl, -⟩ := h1.slice;obtain ⟨a2, c2, rfl, -⟩ := h2.slice;have us_y := us_x;have n_g_p := Ne.symm n_p_g;have l_R1 : w.heap.size < w1.heap.size := h_lt HR1.out;have n_R_p : w.heap.size ≠ w1.heap.size := Nat.ne_of_lt (Nat.lt_of_lt_of_le l_R1 o_p);have n_p_R := Ne.symm n_R_p;have n_R_g : w.heap.size ≠ w1.heap.size + 1 := Nat.ne_of_lt (Nat.lt_of_lt_of_le l_R1 o_g);have n_g_R := Ne.symm n_R_g;have ns_x_R : ¬ T1 w.heap.size := fun h => Nat.not_lt_of_le (dn_x _ h) l_R1
 have ns_y_R : ¬ T2 w.heap.size := fun h => Nat.not_lt_of_le (dn_y _ h) l_R1
 have g_p : 14 < w1.heap.size := hp.p;have g_g : 14 < w1.heap.size + 1 := Nat.lt_of_lt_of_le g_0 o_g;have g_R : 14 < w.heap.size := g_00;have HX1 := zh h1; have HY1 := zh h2; have HPr := zh hp; have HKr := zh hk; have Rg := zh hg;have RR := zh (hk.at HR1.out jg);have HKr2 := zh (hk.weaken (fp' := [w.heap.size]) jg);clear h1 h2 hp hk hg
 cases gk with
 | zero => simp [itemsF] at hG
 | succ f =>
  obtain ⟨st2, t, hl, ht, hG⟩ := itemsF_succ hG;obtain ⟨kd, tx, nm, fr, te⟩ := t;have HL : Hid (linesF s ⟨#[59]⟩ (s.size + 2) st1 = some st2) := zh hl;have HT := zh ht;clear hl ht
  rcases hG with ⟨h0, rfl⟩ | ⟨h0, g2, st3, hi, hl2, hG⟩
  ·simp only at h0;subst h0;have l_p := h_lt HPr.out.row;have l_g := h_lt Rg.out;have l_R := h_lt RR.out
   go_wp2_with fail
   clear l_p l_g l_R;refine (ok_any HPr.out).mono ?_;rintro r w' ⟨rfl, hw'⟩;rw [hw'];clear hw';have l_p := h_lt HPr.out.row;have l_g := h_lt Rg.out;have l_R := h_lt RR.out
   go_wp2_with fail
   clear l_p l_g l_R;refine (lines_any HPr.out HL.out).mono ?_;rintro r e51 ⟨rfl, hp, hk⟩;have Re51_g := zh (hk.at Rg.out (by simp [n_g_p]));have Re51_R := zh (hk.at RR.out jk);have HKe51 := zh (HKr2.out.trans hk (by simp [o_p]));have xe51 := zh (OwnL.kp ruleL HX1.out hk (by simp [ns_x_p]));have us_xe51 := Nat.le_trans us_x hk.size;have ye51 := zh (OwnL.kp funcL HY1.out hk (by simp [ns_y_p]));have us_ye51 := Nat.le_trans us_y hk.size;have HPne51 := zh hp;clear hp;clear hk Rg RR HKr2 HX1 us_x HY1 us_y HPr;have l_p := h_lt HPne51.out.row;have l_g := h_lt Re51_g.out;have l_R := h_lt Re51_R.out
   go_wp2_with fail
   clear l_p l_g l_R;refine (see_any HPne51.out HT.out).mono ?_;rintro r e52 ⟨rfl, hk⟩;have Re52_g := zh (hk.at Re51_g.out jg);have Re52_R := zh (hk.at Re51_R.out jg);have HKe52 := zh (HKe51.out.trans hk jg);have HPe52 := zh (HPne51.out.keep hk);have xe52 := zh (OwnL.kp ruleL xe51.out hk jg);have us_xe52 := Nat.le_trans us_xe51 hk.size;have ye52 := zh (OwnL.kp funcL ye51.out hk jg);have us_ye52 := Nat.le_trans us_ye51 hk.size;clear hk Re51_g Re51_R HKe51 HPne51 xe51 us_xe51 ye51 us_ye51;have l_p := h_lt HPe52.out.row;have l_g := h_lt Re52_g.out;have l_R := h_lt Re52_R.out
   go_wp2_with fail
   refine calls_at (fun W => Keeps [] e52 W ∧ W.heap[e52.heap.size]? = some (.cells #[.int .i64 0, .string tx, .float .f64 nm, .int .i64 fr, .int .i64 te] 90 (0, 0))) ⟨zg, zb⟩ ?_;rintro w53 ⟨Kw53, cw53_T⟩;have ⟨n_p_T, n_T_p⟩ := zne l_p;have ⟨n_g_T, n_T_g⟩ := zne l_g;have ⟨n_R_T, n_T_R⟩ := zne l_R;have o_T : w1.heap.size ≤ e52.heap.size := HKe52.out.size;have g_T : 14 < e52.heap.size := Nat.lt_trans g_p l_p;have ns_x_T : ¬ (T1) (e52.heap.size) := fun h => Nat.not_lt_of_le (us_xe52) (up_x _ h)
   have ns_y_T : ¬ (T2) (e52.heap.size) := fun h => Nat.not_lt_of_le (us_ye52) (up_y _ h)
   have Rw53_g := zh (Kw53.at Re52_g.out jg);have Rw53_R := zh (Kw53.at Re52_R.out jg);have HKw53 := zh (HKe52.out.trans Kw53 jg);have HPw53 := zh (HPe52.out.keep Kw53);have xw53 := zh (OwnL.kp ruleL xe52.out Kw53 jg);have us_xw53 := Nat.le_trans us_xe52 Kw53.size;have yw53 := zh (OwnL.kp funcL ye52.out Kw53 jg);have us_yw53 := Nat.le_trans us_ye52 Kw53.size;have Rw53_T := zh cw53_T;clear Kw53 cw53_T l_p l_g l_R Re52_g Re52_R HKe52 HPe52 xe52 us_xe52 ye52 us_ye52;refine (ok_any HPw53.out).mono ?_;rintro r w' ⟨rfl, hw'⟩;rw [hw'];clear hw';have l_p := h_lt HPw53.out.row;have l_g := h_lt Rw53_g.out;have l_R := h_lt Rw53_R.out;obtain ⟨l_T, xT_0, xT_1, xT_2, xT_3, xT_4, yT_0, yT_1, yT_2, yT_3, yT_4⟩ := cf5 Rw53_T.out
   go_wp2_with fail
   clear l_p l_g l_R l_T xT_0 xT_1 xT_2 xT_3 xT_4 yT_0 yT_1 yT_2 yT_3 yT_4;refine (ok_any HPw53.out).mono ?_;rintro r w' ⟨rfl, hw'⟩;rw [hw'];clear hw';have l_p := h_lt HPw53.out.row;obtain ⟨l_g, xg_0, xg_1, yg_0, yg_1⟩ := cf2 Rw53_g.out;obtain ⟨l_R, xR_0, xR_1, yR_0, yR_1⟩ := cf2 Rw53_R.out;have l_T := h_lt Rw53_T.out
   go_wp2_with fail
   refine ret_at (v := .tuple #[.agg #[.slice a1 rs.length c1, .slice a2 fs.length c2], .complex .f64 0 0, .int .i64 0]) (fun W => Keeps [w.heap.size] w53 W ∧ W.heap[w.heap.size]? = some (.cells #[.slice a1 rs.length c1, .slice a2 fs.length c2] 33 (0, 0))) ⟨zg, (qb Rw53_R.out l_R)⟩ (fun w54 hW => ?_) rfl (fun w54 hW => ?_)
   ·obtain ⟨Kw54, cw54_R⟩ := hW;have q0 := cell_of_heap cw54_R 0;have q1 := cell_of_heap cw54_R 1;simp at q0 q1;exact jic
   obtain ⟨Kw54, cw54_R⟩ := hW;have Rw54_g := zh (Kw54.at Rw53_g.out (by simp [n_g_R]));have Rw54_T := zh (Kw54.at Rw53_T.out qx);have HKw54 := zh (HKw53.out.trans Kw54 jg);have HPw54 := zh (HPw53.out.keepN Kw54 jr zt);have xw54 := zh (OwnL.kp ruleL xw53.out Kw54 (by simp [ns_x_R]));have us_xw54 := Nat.le_trans us_xw53 Kw54.size;have yw54 := zh (OwnL.kp funcL yw53.out Kw54 (by simp [ns_y_R]));have us_yw54 := Nat.le_trans us_yw53 Kw54.size;have Rw54_R := zh cw54_R;clear Kw54 cw54_R l_p l_g xg_0 xg_1 yg_0 yg_1 l_R xR_0 xR_1 yR_0 yR_1 l_T Rw53_g Rw53_T HKw53 HPw53 xw53 us_xw53 yw53 us_yw53 Rw53_R;exact ⟨_, rfl, ⟨_, _, _, _, rfl, (sliceR_of_own ruleL xw54.out).to ruleL (fun x h => Nat.le_trans HKw1.out.size (dn_x x h)), (sliceR_of_own funcL yw54.out).to funcL (fun x h => Nat.le_trans HKw1.out.size (dn_y x h))⟩, (HKw1.out).trans (fp' := [w.heap.size]) HKw54.out jg⟩
  have n0 : (kd == 0) = false := beq_false_of_ne h0;have HI := zh hi; have HF := zh hG;have hlen2 : rs.length + fs.length ≤ 1000 := by omega
  have hlen3 := zh (show g2.rules.length + g2.funcs.length + f ≤ 100 by omega);clear hi hG hl2 h0;have l_p := h_lt HPr.out.row;have l_g := h_lt Rg.out;have l_R := h_lt RR.out
  go_wp2_with fail
  clear l_p l_g l_R;refine (ok_any HPr.out).mono ?_;rintro r w' ⟨rfl, hw'⟩;rw [hw'];clear hw';have l_p := h_lt HPr.out.row;have l_g := h_lt Rg.out;have l_R := h_lt RR.out
  go_wp2_with fail
  clear l_p l_g l_R;refine (lines_any HPr.out HL.out).mono ?_;rintro r e51 ⟨rfl, hp, hk⟩;have Re51_g := zh (hk.at Rg.out (by simp [n_g_p]));have Re51_R := zh (hk.at RR.out jk);have HKe51 := zh (HKr.out.trans hk (by simp [o_p]));have xe51 := zh (OwnL.kp ruleL HX1.out hk (by simp [ns_x_p]));have us_xe51 := Nat.le_trans us_x hk.size;have ye51 := zh (OwnL.kp funcL HY1.out hk (by simp [ns_y_p]));have us_ye51 := Nat.le_trans us_y hk.size;have HPne51 := zh hp;clear hp;clear hk Rg RR HKr HX1 us_x HY1 us_y HPr;have l_p := h_lt HPne51.out.row;have l_g := h_lt Re51_g.out;have l_R := h_lt Re51_R.out
  go_wp2_with fail
  clear l_p l_g l_R;refine (see_any HPne51.out HT.out).mono ?_;rintro r e52 ⟨rfl, hk⟩;have Re52_g := zh (hk.at Re51_g.out jg);have Re52_R := zh (hk.at Re51_R.out jg);have HKe52 := zh (HKe51.out.trans hk jg);have HPe52 := zh (HPne51.out.keep hk);have xe52 := zh (OwnL.kp ruleL xe51.out hk jg);have us_xe52 := Nat.le_trans us_xe51 hk.size;have ye52 := zh (OwnL.kp funcL ye51.out hk jg);have us_ye52 := Nat.le_trans us_ye51 hk.size;clear hk Re51_g Re51_R HKe51 HPne51 xe51 us_xe51 ye51 us_ye51;have l_p := h_lt HPe52.out.row;have l_g := h_lt Re52_g.out;have l_R := h_lt Re52_R.out
  go_wp2_with fail
  refine calls_at (fun W => Keeps [] e52 W ∧ W.heap[e52.heap.size]? = some (.cells #[.int .i64 kd, .string tx, .float .f64 nm, .int .i64 fr, .int .i64 te] 90 (0, 0))) ⟨zg, zb⟩ ?_;rintro w53 ⟨Kw53, cw53_T⟩;have ⟨n_p_T, n_T_p⟩ := zne l_p;have ⟨n_g_T, n_T_g⟩ := zne l_g;have ⟨n_R_T, n_T_R⟩ := zne l_R;have o_T : w1.heap.size ≤ e52.heap.size := HKe52.out.size;have g_T : 14 < e52.heap.size := Nat.lt_trans g_p l_p;have ns_x_T : ¬ (T1) (e52.heap.size) := fun h => Nat.not_lt_of_le (us_xe52) (up_x _ h)
  have ns_y_T : ¬ (T2) (e52.heap.size) := fun h => Nat.not_lt_of_le (us_ye52) (up_y _ h)
  have Rw53_g := zh (Kw53.at Re52_g.out jg);have Rw53_R := zh (Kw53.at Re52_R.out jg);have HKw53 := zh (HKe52.out.trans Kw53 jg);have HPw53 := zh (HPe52.out.keep Kw53);have xw53 := zh (OwnL.kp ruleL xe52.out Kw53 jg);have us_xw53 := Nat.le_trans us_xe52 Kw53.size;have yw53 := zh (OwnL.kp funcL ye52.out Kw53 jg);have us_yw53 := Nat.le_trans us_ye52 Kw53.size;have Rw53_T := zh cw53_T;clear Kw53 cw53_T l_p l_g l_R Re52_g Re52_R HKe52 HPe52 xe52 us_xe52 ye52 us_ye52;refine (ok_any HPw53.out).mono ?_;rintro r w' ⟨rfl, hw'⟩;rw [hw'];clear hw';have l_p := h_lt HPw53.out.row;have l_g := h_lt Rw53_g.out;have l_R := h_lt Rw53_R.out;obtain ⟨l_T, xT_0, xT_1, xT_2, xT_3, xT_4, yT_0, yT_1, yT_2, yT_3, yT_4⟩ := cf5 Rw53_T.out
  go_wp2_with fail
  clear l_p l_g l_R l_T xT_0 xT_1 xT_2 xT_3 xT_4 yT_0 yT_1 yT_2 yT_3 yT_4;refine (item_any (k := 100) hlen2 g_0 ⟨_, _, T1, T2, w53.heap.size, xw53.out, yw53.out, fun x h => Nat.lt_of_lt_of_le (up_x x h) us_xw53, fun x h => Nat.lt_of_lt_of_le (up_y x h) us_yw53, Nat.le_refl _, dn_x, dn_y, dj_x_y, ns_x_p, ns_y_p, ns_x_g, ns_y_g, n_p_g, o_p, o_g, HPw53.out, HKw53.out, Rw53_g.out⟩ HI.out).mono ?_;rintro r e99 ⟨rfl, hpi⟩;have HPI := zh hpi;clear hpi
  go_wp2_with fail
  go_roundg f
  case measure => omega
  case rel => exact ⟨_, _, _, HF.out, hlen3.out, HPI.out⟩
theorem special_0 (w : World) : Calls Tryz.prog 12 #[.string ⟨#[78, 82]⟩] w fun r w' => r = .returned (.bool true) ∧ w' = w := by
 exact zld
theorem special_1 (w : World) : Calls Tryz.prog 12 #[.string ⟨#[78, 70]⟩] w fun r w' => r = .returned (.bool true) ∧ w' = w := by
 exact zld
theorem special_2 (w : World) : Calls Tryz.prog 12 #[.string ⟨#[70, 83]⟩] w fun r w' => r = .returned (.bool true) ∧ w' = w := by
 exact zld
theorem special_3 (w : World) : Calls Tryz.prog 12 #[.string ⟨#[79, 70, 83]⟩] w fun r w' => r = .returned (.bool true) ∧ w' = w := by
 exact zld
theorem special_4 (w : World) : Calls Tryz.prog 12 #[.string ⟨#[79, 82, 83]⟩] w fun r w' => r = .returned (.bool true) ∧ w' = w := by
 exact zld
theorem special_5 (w : World) : Calls Tryz.prog 12 #[.string ⟨#[82, 83]⟩] w fun r w' => r = .returned (.bool true) ∧ w' = w := by
 exact zld
theorem special_6 (w : World) : Calls Tryz.prog 12 #[.string ⟨#[83, 85, 66, 83, 69, 80]⟩] w fun r w' => r = .returned (.bool true) ∧ w' = w := by
 exact zld
theorem special_7 (w : World) : Calls Tryz.prog 12 #[.string ⟨#[67, 79, 78, 86, 70, 77, 84]⟩] w fun r w' => r = .returned (.bool true) ∧ w' = w := by
 exact zld
theorem special_8 (w : World) : Calls Tryz.prog 12 #[.string ⟨#[79, 70, 77, 84]⟩] w fun r w' => r = .returned (.bool true) ∧ w' = w := by
 exact zld
theorem special_9 (w : World) : Calls Tryz.prog 12 #[.string ⟨#[82, 83, 84, 65, 82, 84]⟩] w fun r w' => r = .returned (.bool true) ∧ w' = w := by
 exact zld
theorem special_10 (w : World) : Calls Tryz.prog 12 #[.string ⟨#[82, 76, 69, 78, 71, 84, 72]⟩] w fun r w' => r = .returned (.bool true) ∧ w' = w := by
 exact zld
theorem special_11 (w : World) : Calls Tryz.prog 12 #[.string ⟨#[78, 79, 87]⟩] w fun r w' => r = .returned (.bool true) ∧ w' = w := by
 exact zld
theorem special_12 (w : World) : Calls Tryz.prog 12 #[.string ⟨#[71, 65, 80, 83]⟩] w fun r w' => r = .returned (.bool true) ∧ w' = w := by
 exact zld
theorem special_no (s : ByteArray) (h0 : (s.toList == [78, 82]) = false) (h1 : (s.toList == [78, 70]) = false) (h2 : (s.toList == [70, 83]) = false) (h3 : (s.toList == [79, 70, 83]) = false) (h4 : (s.toList == [79, 82, 83]) = false) (h5 : (s.toList == [82, 83]) = false) (h6 : (s.toList == [83, 85, 66, 83, 69, 80]) = false) (h7 : (s.toList == [67, 79, 78, 86, 70, 77, 84]) = false) (h8 : (s.toList == [79, 70, 77, 84]) = false) (h9 : (s.toList == [82, 83, 84, 65, 82, 84]) = false) (h10 : (s.toList == [82, 76, 69, 78, 71, 84, 72]) = false) (h11 : (s.toList == [78, 79, 87]) = false) (h12 : (s.toList == [71, 65, 80, 83]) = false) (w : World) : Calls Tryz.prog 12 #[.string s] w fun r w' => r = .returned (.bool false) ∧ w' = w := by
 exact zld
theorem same_lit {s : ByteArray} {l : List UInt8} (h : same s (bs l) = true) : s = ⟨l.toArray⟩ := same_iff.1 h
theorem special_any (s : ByteArray) (w : World) : Calls Tryz.prog 12 #[.string s] w fun r w' => r = .returned (.bool (specialF s)) ∧ w' = w := by
 unfold specialF specials;simp only [memB]
 by_cases h0 : same s (bs [78, 82]) = true
 ·rw [if_pos h0, same_lit h0]; exact special_0 w
 rw [if_neg h0]
 by_cases h1 : same s (bs [78, 70]) = true
 ·rw [if_pos h1, same_lit h1]; exact special_1 w
 rw [if_neg h1]
 by_cases h2 : same s (bs [70, 83]) = true
 ·rw [if_pos h2, same_lit h2]; exact special_2 w
 rw [if_neg h2]
 by_cases h3 : same s (bs [79, 70, 83]) = true
 ·rw [if_pos h3, same_lit h3]; exact special_3 w
 rw [if_neg h3]
 by_cases h4 : same s (bs [79, 82, 83]) = true
 ·rw [if_pos h4, same_lit h4]; exact special_4 w
 rw [if_neg h4]
 by_cases h5 : same s (bs [82, 83]) = true
 ·rw [if_pos h5, same_lit h5]; exact special_5 w
 rw [if_neg h5]
 by_cases h6 : same s (bs [83, 85, 66, 83, 69, 80]) = true
 ·rw [if_pos h6, same_lit h6]; exact special_6 w
 rw [if_neg h6]
 by_cases h7 : same s (bs [67, 79, 78, 86, 70, 77, 84]) = true
 ·rw [if_pos h7, same_lit h7]; exact special_7 w
 rw [if_neg h7]
 by_cases h8 : same s (bs [79, 70, 77, 84]) = true
 ·rw [if_pos h8, same_lit h8]; exact special_8 w
 rw [if_neg h8]
 by_cases h9 : same s (bs [82, 83, 84, 65, 82, 84]) = true
 ·rw [if_pos h9, same_lit h9]; exact special_9 w
 rw [if_neg h9]
 by_cases h10 : same s (bs [82, 76, 69, 78, 71, 84, 72]) = true
 ·rw [if_pos h10, same_lit h10]; exact special_10 w
 rw [if_neg h10]
 by_cases h11 : same s (bs [78, 79, 87]) = true
 ·rw [if_pos h11, same_lit h11]; exact special_11 w
 rw [if_neg h11]
 by_cases h12 : same s (bs [71, 65, 80, 83]) = true
 ·rw [if_pos h12, same_lit h12]; exact special_12 w
 rw [if_neg h12];simp only [Bool.not_eq_true] at h0 h1 h2 h3 h4 h5 h6 h7 h8 h9 h10 h11 h12;exact special_no s (same_false h0) (same_false h1) (same_false h2) (same_false h3) (same_false h4) (same_false h5) (same_false h6) (same_false h7) (same_false h8) (same_false h9) (same_false h10) (same_false h11) (same_false h12) w
theorem counts_0 (w : World) : Calls Tryz.prog 117 #[.string ⟨#[108, 101, 110, 103, 116, 104]⟩] w fun r w' => r = .returned (.tuple #[.int .i64 0, .int .i64 1]) ∧ w' = w := by
 exact jld
theorem counts_1 (w : World) : Calls Tryz.prog 117 #[.string ⟨#[115, 114, 97, 110, 100]⟩] w fun r w' => r = .returned (.tuple #[.int .i64 0, .int .i64 1]) ∧ w' = w := by
 exact jld
theorem counts_2 (w : World) : Calls Tryz.prog 117 #[.string ⟨#[114, 97, 110, 100]⟩] w fun r w' => r = .returned (.tuple #[.int .i64 0, .int .i64 0]) ∧ w' = w := by
 exact jld
theorem counts_3 (w : World) : Calls Tryz.prog 117 #[.string ⟨#[105, 110, 100, 101, 120]⟩] w fun r w' => r = .returned (.tuple #[.int .i64 2, .int .i64 2]) ∧ w' = w := by
 exact jld
theorem counts_4 (w : World) : Calls Tryz.prog 117 #[.string ⟨#[109, 97, 116, 99, 104]⟩] w fun r w' => r = .returned (.tuple #[.int .i64 2, .int .i64 2]) ∧ w' = w := by
 exact jld
theorem counts_5 (w : World) : Calls Tryz.prog 117 #[.string ⟨#[97, 116, 97, 110, 50]⟩] w fun r w' => r = .returned (.tuple #[.int .i64 2, .int .i64 2]) ∧ w' = w := by
 exact jld
theorem counts_6 (w : World) : Calls Tryz.prog 117 #[.string ⟨#[101, 120, 112, 105, 114, 101]⟩] w fun r w' => r = .returned (.tuple #[.int .i64 2, .int .i64 2]) ∧ w' = w := by
 exact jld
theorem counts_7 (w : World) : Calls Tryz.prog 117 #[.string ⟨#[115, 117, 98, 115, 116, 114]⟩] w fun r w' => r = .returned (.tuple #[.int .i64 2, .int .i64 3]) ∧ w' = w := by
 exact jld
theorem counts_8 (w : World) : Calls Tryz.prog 117 #[.string ⟨#[115, 112, 108, 105, 116]⟩] w fun r w' => r = .returned (.tuple #[.int .i64 2, .int .i64 3]) ∧ w' = w := by
 exact jld
theorem counts_9 (w : World) : Calls Tryz.prog 117 #[.string ⟨#[115, 117, 98]⟩] w fun r w' => r = .returned (.tuple #[.int .i64 2, .int .i64 3]) ∧ w' = w := by
 exact jld
theorem counts_10 (w : World) : Calls Tryz.prog 117 #[.string ⟨#[103, 115, 117, 98]⟩] w fun r w' => r = .returned (.tuple #[.int .i64 2, .int .i64 3]) ∧ w' = w := by
 exact jld
theorem counts_11 (w : World) : Calls Tryz.prog 117 #[.string ⟨#[115, 112, 114, 105, 110, 116, 102]⟩] w fun r w' => r = .returned (.tuple #[.int .i64 1, .int .i64 1073741824]) ∧ w' = w := by
 exact jld
theorem counts_no (s : ByteArray) (h0 : (s.toList == [108, 101, 110, 103, 116, 104]) = false) (h1 : (s.toList == [115, 114, 97, 110, 100]) = false) (h2 : (s.toList == [114, 97, 110, 100]) = false) (h3 : (s.toList == [105, 110, 100, 101, 120]) = false) (h4 : (s.toList == [109, 97, 116, 99, 104]) = false) (h5 : (s.toList == [97, 116, 97, 110, 50]) = false) (h6 : (s.toList == [101, 120, 112, 105, 114, 101]) = false) (h7 : (s.toList == [115, 117, 98, 115, 116, 114]) = false) (h8 : (s.toList == [115, 112, 108, 105, 116]) = false) (h9 : (s.toList == [115, 117, 98]) = false) (h10 : (s.toList == [103, 115, 117, 98]) = false) (h11 : (s.toList == [115, 112, 114, 105, 110, 116, 102]) = false) (w : World) : Calls Tryz.prog 117 #[.string s] w fun r w' => r = .returned (.tuple #[.int .i64 1, .int .i64 1]) ∧ w' = w := by
 exact jld
theorem counts_any (s : ByteArray) (w : World) : Calls Tryz.prog 117 #[.string s] w fun r w' => r = .returned (.tuple #[.int .i64 ((countsF s).1 : Nat), .int .i64 ((countsF s).2 : Nat)]) ∧ w' = w := by
 by_cases h0 : same s (bs [108, 101, 110, 103, 116, 104]) = true
 ·rw [same_lit h0]; exact counts_0 w
 by_cases h1 : same s (bs [115, 114, 97, 110, 100]) = true
 ·rw [same_lit h1]; exact counts_1 w
 by_cases h2 : same s (bs [114, 97, 110, 100]) = true
 ·rw [same_lit h2]; exact counts_2 w
 by_cases h3 : same s (bs [105, 110, 100, 101, 120]) = true
 ·rw [same_lit h3]; exact counts_3 w
 by_cases h4 : same s (bs [109, 97, 116, 99, 104]) = true
 ·rw [same_lit h4]; exact counts_4 w
 by_cases h5 : same s (bs [97, 116, 97, 110, 50]) = true
 ·rw [same_lit h5]; exact counts_5 w
 by_cases h6 : same s (bs [101, 120, 112, 105, 114, 101]) = true
 ·rw [same_lit h6]; exact counts_6 w
 by_cases h7 : same s (bs [115, 117, 98, 115, 116, 114]) = true
 ·rw [same_lit h7]; exact counts_7 w
 by_cases h8 : same s (bs [115, 112, 108, 105, 116]) = true
 ·rw [same_lit h8]; exact counts_8 w
 by_cases h9 : same s (bs [115, 117, 98]) = true
 ·rw [same_lit h9]; exact counts_9 w
 by_cases h10 : same s (bs [103, 115, 117, 98]) = true
 ·rw [same_lit h10]; exact counts_10 w
 by_cases h11 : same s (bs [115, 112, 114, 105, 110, 116, 102]) = true
 ·rw [same_lit h11]; exact counts_11 w
 simp only [Bool.not_eq_true] at h0 h1 h2 h3 h4 h5 h6 h7 h8 h9 h10 h11
 have hc : countsF s = (1, 1) := by
  unfold countsF;simp only [memB, h0, h1, h2, h3, h4, h5, h6, h7, h8, h9, h10, h11, Bool.false_eq_true, if_false]
 rw [hc];exact counts_no s (same_false h0) (same_false h1) (same_false h2) (same_false h3) (same_false h4) (same_false h5) (same_false h6) (same_false h7) (same_false h8) (same_false h9) (same_false h10) (same_false h11) w
theorem qqd {p : Prop} (h : p := by
 obtain ⟨es, k, h1, h2⟩ := h.same;have hz : (zeroValue 101).run Tryz.prog W = .ok (.agg #[.int .i64 0, .string ⟨#[]⟩]) W := by simp [go_sem]
 have := run_klook_ok (P := Tryz.prog) keyT Tryz.underlying66 (w := W) hz h1 (a, b);rw [kval_alook (a, b) h2, hr] at this;exact this) : p := h
/-! ### uses as elements -/
def UseE (_ : World) (_ : Nat → Prop) (u : Use) (c : List Value) : Prop :=
 c = [.complex .f64 u.re u.im, .int .i64 u.of.1, .string u.of.2, .bool u.array, .int .i64 u.param.1, .string u.param.2, .bool u.kid, .bool u.bad]
theorem useL : ElemL UseE 8 := {
 keep := fun h _ _ _ => h
 len := fun h => by rw [h]; rfl
 one := fun h u hu => by rw [h] at hu; simp at hu; rcases hu with rfl | rfl | rfl | rfl | rfl | rfl | rfl | rfl <;> rfl
 }
theorem info106 : ∃ i, Tryz.prog.info? 106 = some i ∧ i.zero = some (.agg #[.complex .f64 0 0, .int .i64 0, .string ⟨#[]⟩, .bool false, .int .i64 0, .string ⟨#[]⟩, .bool false, .bool false]) ∧ i.size = 8 ∧ i.bytes = 80 := by
 have h : (Tryz.prog.info? 106).map (fun i => (i.zero, i.size, i.bytes)) = some (some (.agg #[.complex .f64 0 0, .int .i64 0, .string ⟨#[]⟩, .bool false, .int .i64 0, .string ⟨#[]⟩, .bool false, .bool false]), 8, 80) := by kernel_rfl
 cases hi : Tryz.prog.info? 106 with
 | none => rw [hi] at h; cases h
 | some i => rw [hi] at h; simp at h; exact ⟨i, rfl, h.1, h.2.1, h.2.2⟩
/-! ### maps as lists -/
def MapT (w : World) (b : Nat) (l : List (Thing × Thing)) : Prop := ∃ es k, w.heap[b]? = some (.map (ents tval es) k) ∧ es.map (fun e => (e.key, e.val)) = l.map (fun x => (x.1, tval x.2))
def SetL (es : List (Ent Thing)) (k : Nat) (l : List Thing) : Prop := es.map (fun e => (e.key, e.val)) = l.map (fun x => (x, .agg #[])) ∧ (es.map (·.born)).Nodup ∧ ∀ e ∈ es, e.born < k
def SetT (w : World) (b : Nat) (l : List Thing) : Prop := ∃ es k, w.heap[b]? = some (.map (ents tval es) k) ∧ SetL es k l
def MapF (w : World) (b : Nat) (g : ProgP) : Prop := ∃ (es : List (Ent ByteArray)) (k : Nat), w.heap[b]? = some (.map (ents (fun s => Value.string s) es) k) ∧ ∀ s, (kval s es).getD (.int .i64 0) = .int .i64 (flook g s : Nat)
theorem klook_shift {κ : Type} [DecidableEq κ] (k : κ) : ∀ (l : List (Ent κ)) (i j : Nat), (klook k l i).map (·.2) = (klook k l j).map (·.2)
 | [], _, _ => rfl
 | e :: l, i, j => by
   unfold klook
   split
   ·rfl
   exact klook_shift k l _ _
theorem kval_cons {κ : Type} [DecidableEq κ] (k : κ) (e : Ent κ) (l : List (Ent κ)) : kval k (e :: l) = if k = e.key then some e.val else kval k l := by
 unfold kval
 conv => lhs; unfold klook
 split
 ·rfl
 exact klook_shift k l _ _
theorem teq_iff {a b : Thing} : teq a b = true ↔ a = b := by
 obtain ⟨x, y⟩ := a; obtain ⟨x2, y2⟩ := b;unfold teq;simp only [Bool.and_eq_true, beq_iff_eq, Prod.mk.injEq];exact ⟨fun ⟨h1, h2⟩ => ⟨h1, same_iff.1 h2⟩, fun ⟨h1, h2⟩ => ⟨h1, same_iff.2 h2⟩⟩
theorem kval_alook (k : Thing) : ∀ {es : List (Ent Thing)} {l : List (Thing × Thing)}, es.map (fun e => (e.key, e.val)) = l.map (fun x => (x.1, tval x.2)) → kval k es = (alook k l).map tval
 | [], [], _ => rfl
 | e :: es, x :: l, h => by
   simp only [List.map_cons, List.cons.injEq, Prod.mk.injEq] at h;obtain ⟨⟨h1, h2⟩, h3⟩ := h;rw [kval_cons];unfold alook
   by_cases hk : k = e.key
   ·rw [if_pos hk, if_pos (teq_iff.2 (hk.trans h1)), h2]; rfl
   rw [if_neg hk, if_neg (fun h => hk ((teq_iff.1 h).trans h1.symm))];exact kval_alook k h3
 | [], _ :: _, h => by simp at h
 | _ :: _, [], h => by simp at h
theorem tmem_iff {t : Thing} : ∀ {l : List Thing}, tmem t l = true ↔ t ∈ l
 | [] => by simp [tmem]
 | x :: l => by
   unfold tmem
   by_cases h : teq t x = true
   ·rw [if_pos h]; simp [teq_iff.1 h]
   rw [if_neg h, tmem_iff, List.mem_cons];exact ⟨.inr, fun h2 => h2.resolve_left fun h3 => h (teq_iff.2 h3)⟩
theorem klook_none_iff {κ : Type} [DecidableEq κ] {k : κ} : ∀ {l : List (Ent κ)} {i : Nat}, klook k l i = none ↔ k ∉ l.map (·.key)
 | [], _ => by simp [klook]
 | e :: l, i => by
   unfold klook
   by_cases h : k = e.key
   ·simp [h]
   rw [if_neg h, klook_none_iff]; simp [h]
theorem SetT.put {w' : World} {b : Nat} {l : List Thing} {t : Thing} {es : List (Ent Thing)} {k : Nat} (he0 : SetL es k l) (hb : w'.heap[b]? = some (.map (ents tval (kput t (.agg #[]) k es).1) (kput t (.agg #[]) k es).2)) : SetT w' b (if tmem t l then l else l ++ [t]) := by
 obtain ⟨he, hbn, hbl⟩ := he0
 have hkeys : es.map (·.key) = l := by
  have := congrArg (List.map Prod.fst) he
  simpa [List.map_map, Function.comp_def] using this
 refine ⟨_, _, hb, ?_⟩;unfold kput
 cases h : klook t es 0 with
 | none =>
  have hn : t ∉ l := by rw [← hkeys]; exact klook_none_iff.1 h
  rw [if_neg (fun h2 => hn (tmem_iff.1 h2))];refine ⟨by simp [he], ?_, fun e hm => ?_⟩
  ·simp only [List.map_append, List.map_cons, List.map_nil];rw [List.nodup_append];refine ⟨hbn, by simp, fun x hx y hy hxy => ?_⟩;obtain ⟨e, hm, rfl⟩ := List.mem_map.1 hx;have := hbl e hm;simp at hy
   omega
  rcases List.mem_append.1 hm with hm | hm
  ·exact Nat.lt_succ_of_lt (hbl e hm)
  simp at hm; subst hm; exact Nat.lt_succ_self k
 | some x =>
  obtain ⟨i, v⟩ := x
  have hm : t ∈ l := by
   rw [← hkeys];exact Classical.byContradiction fun hn => by rw [klook_none_iff.2 hn] at h; cases h
  have hv : ∀ e ∈ es, e.val = .agg #[] := fun e hm => by
   have : (e.key, e.val) ∈ es.map (fun e => (e.key, e.val)) := List.mem_map.2 ⟨e, hm, rfl⟩;rw [he] at this;obtain ⟨x, _, hx⟩ := List.mem_map.1 this;exact (Prod.mk.inj hx).2.symm
  have hsame : es.modify i (fun e => { e with val := .agg #[] }) = es := by
   apply List.ext_getElem?;intro j;simp only [List.getElem?_modify]
   cases hj : es[j]? with
   | none => simp
   | some e =>
    have := hv e (List.mem_of_getElem? hj)
    by_cases hij : i = j
    ·simp [hij]
     cases e
     simp_all
    simp [hij]
  rw [if_pos (tmem_iff.2 hm)];simp only [hsame];exact ⟨he, hbn, hbl⟩
theorem MapT.put {w' : World} {b : Nat} {l : List (Thing × Thing)} {t u : Thing} {es : List (Ent Thing)} {k : Nat} (he : es.map (fun e => (e.key, e.val)) = l.map (fun x => (x.1, tval x.2))) (hn : alook t l = none) (hb : w'.heap[b]? = some (.map (ents tval (kput t (tval u) k es).1) (kput t (tval u) k es).2)) : MapT w' b (l ++ [(t, u)]) := by
 refine ⟨_, _, hb, ?_⟩
 have h : klook t es 0 = none := by
  have := kval_alook t he;rw [hn] at this;unfold kval at this
  cases h2 : klook t es 0 with
  | none => rfl
  | some x => rw [h2] at this; cases this
 unfold kput;rw [h];simp [he]
structure CKey where
 g : ProgP
 w0 : World
 c : Nat
 mf : Nat
 ms : Nat
 mn : Nat
 ra : Option Addr
 rc : Nat
 fa : Option Addr
 fc : Nat
structure CFix (K : CKey) : Prop where
 rules : SliceR RuleE K.w0 (fun _ => True) K.g.rules (.slice K.ra K.g.rules.length K.rc)
 funcs : SliceR FuncE K.w0 (fun _ => True) K.g.funcs (.slice K.fa K.g.funcs.length K.fc)
 c : K.w0.heap.size ≤ K.c
 mf : K.w0.heap.size ≤ K.mf
 ms : K.w0.heap.size ≤ K.ms
 mn : K.w0.heap.size ≤ K.mn
 ne : K.c ≠ K.mf ∧ K.c ≠ K.ms ∧ K.c ≠ K.mn ∧ K.mf ≠ K.ms ∧ K.mf ≠ K.mn ∧ K.ms ≠ K.mn
 small : K.g.funcs.length ≤ 1000000
 rsmall : K.g.rules.length ≤ 1000000
 psmall : ∀ f ∈ K.g.funcs, f.params.length ≤ 1000000
 tsmall : ∀ r ∈ K.g.rules, r.pats.length ≤ 1000000
abbrev ckC (K : CKey) (st : NS) (ua : Option Addr) (uc : Nat) : Obj :=
 .cells #[.slice K.ra K.g.rules.length K.rc, .slice K.fa K.g.funcs.length K.fc, .map (some K.mf), .int .i64 st.fn, .int .i64 st.rule, .int .i64 st.loops, .slice ua st.uses.length uc, .map (some K.ms), .map (some K.mn), .complex .f64 st.re st.im, .int .i64 st.e] 70 (0, 0)
structure CK (K : CKey) (T : Nat → Prop) (ua : Option Addr) (uc : Nat) (st : NS) (W : World) : Prop where
 keep : Keeps [] K.w0 W
 row : W.heap[K.c]? = some (ckC K st ua uc)
 fns : MapF W K.mf K.g
 same : MapT W K.ms st.same
 seen : SetT W K.mn st.seen
 uses : OwnL UseE 106 8 W K.w0.heap.size T st.uses (.slice ua st.uses.length uc)
 up : ∀ x, T x → x < W.heap.size
 dn : ∀ x, T x → K.w0.heap.size ≤ x
 ns : ¬ T K.c ∧ ¬ T K.mf ∧ ¬ T K.ms ∧ ¬ T K.mn
 fn : st.fn ≤ K.g.funcs.length
 loops : -1000000 ≤ st.loops ∧ st.loops ≤ 1000000
theorem MapF.keep {w w' : World} {b : Nat} {g : ProgP} {fp : List Nat} (h : MapF w b g) (hk : Keeps fp w w') (hb : b ∉ fp) : MapF w' b g := by
 exact jud
theorem MapT.keep {w w' : World} {b : Nat} {l : List (Thing × Thing)} {fp : List Nat} (h : MapT w b l) (hk : Keeps fp w w') (hb : b ∉ fp) : MapT w' b l := by
 exact jud
theorem SetT.keep {w w' : World} {b : Nat} {l : List Thing} {fp : List Nat} (h : SetT w b l) (hk : Keeps fp w w') (hb : b ∉ fp) : SetT w' b l := by
 exact jud
theorem CK.kp {K : CKey} {T : Nat → Prop} {ua : Option Addr} {uc : Nat} {st : NS} {W W' : World} {fp : List Nat} (h : CK K T ua uc st W) (hk : Keeps fp W W') (h0 : ∀ x ∈ fp, K.w0.heap.size ≤ x) (hc : K.c ∉ fp) (hmf : K.mf ∉ fp) (hms : K.ms ∉ fp) (hmn : K.mn ∉ fp) (hT : ∀ x ∈ fp, ¬ T x) : CK K T ua uc st W' :=
 ⟨h.keep.trans hk (fun x hx => .inr (h0 x hx)), hk.at h.row hc, h.fns.keep hk hmf, h.same.keep hk hms, h.seen.keep hk hmn, h.uses.kp useL hk hT, fun x hx => Nat.lt_of_lt_of_le (h.up x hx) hk.size, h.dn, h.ns, h.fn, h.loops⟩
theorem CK.kp0 {K : CKey} {T : Nat → Prop} {ua : Option Addr} {uc : Nat} {st : NS} {W W' : World} (h : CK K T ua uc st W) (hk : Keeps [] W W') : CK K T ua uc st W' := h.kp hk jg jg jg jg jg jg
theorem CK.upd {K : CKey} (hK : CFix K) {T : Nat → Prop} {ua : Option Addr} {uc : Nat} {st st' : NS} {W W' : World} {fp : List Nat} (h : CK K T ua uc st W) (hk : Keeps (K.c :: fp) W W') (hr : W'.heap[K.c]? = some (ckC K st' ua uc)) (h0 : ∀ x ∈ fp, K.w0.heap.size ≤ x) (hmf : K.mf ∉ fp) (hms : K.ms ∉ fp) (hmn : K.mn ∉ fp) (hT : ∀ x ∈ fp, ¬ T x)
  (hs : st'.same = st.same) (hn : st'.seen = st.seen) (hu : st'.uses = st.uses) (hf : st'.fn ≤ K.g.funcs.length) (hl : -1000000 ≤ st'.loops ∧ st'.loops ≤ 1000000) : CK K T ua uc st' W' :=
 ⟨h.keep.trans hk (fun x hx => by rcases List.mem_cons.1 hx with rfl | hx; exact .inr hK.c; exact .inr (h0 x hx)), hr, h.fns.keep hk (by simp [Ne.symm hK.ne.1, hmf]), hs ▸ h.same.keep hk (by simp [Ne.symm hK.ne.2.1, hms]), hn ▸ h.seen.keep hk (by simp [Ne.symm hK.ne.2.2.1, hmn]),
  by rw [hu]; exact h.uses.kp useL hk (fun x hx => by rcases List.mem_cons.1 hx with rfl | hx; exact h.ns.1; exact hT x hx), fun x hx => Nat.lt_of_lt_of_le (h.up x hx) hk.size, h.dn, h.ns, hf, hl⟩
def CStep (K : CKey) (T T' : Nat → Prop) (W W' : World) : Prop :=
 (∀ x, T' x → T x ∨ (W.heap.size ≤ x ∧ x < W'.heap.size)) ∧ ∃ fl : List Nat, (∀ x ∈ fl, x = K.c ∨ x = K.ms ∨ x = K.mn ∨ T x) ∧ Keeps fl W W'
theorem CStep.refl (K : CKey) (T : Nat → Prop) (W : World) : CStep K T T W W := ⟨fun _ h => .inl h, [], by simp, Keeps.refl _ _⟩
theorem CStep.size {K : CKey} {T T' : Nat → Prop} {W W' : World} (h : CStep K T T' W W') : W.heap.size ≤ W'.heap.size := by obtain ⟨_, fl, _, hk⟩ := h; exact hk.size
theorem CStep.trans {K : CKey} {T T' T'' : Nat → Prop} {W W' W'' : World} (h : CStep K T T' W W') (k : CStep K T' T'' W' W'') : CStep K T T'' W W'' := by
 have hs := h.size;have hs2 := k.size;obtain ⟨h1, fl, h2, h3⟩ := h;obtain ⟨k1, fl', k2, k3⟩ := k;refine ⟨fun x hx => ?_, fl ++ fl'.filter (fun x => decide (x < W.heap.size)), fun x hx => ?_, ?_⟩
 ·rcases k1 x hx with h | h
  ·exact (h1 x h).imp id fun h => ⟨h.1, Nat.lt_of_lt_of_le h.2 hs2⟩
  exact .inr ⟨Nat.le_trans hs h.1, h.2⟩
 ·rcases List.mem_append.1 hx with hx | hx
  ·exact h2 x hx
  obtain ⟨hx, hlt⟩ := List.mem_filter.1 hx;simp at hlt
  rcases k2 x hx with h | h | h | h
  ·exact .inl h
  ·exact .inr (.inl h)
  ·exact .inr (.inr (.inl h))
  rcases h1 x h with h | h
  ·exact .inr (.inr (.inr h))
  exact absurd hlt (Nat.not_lt_of_le h.1)
 refine (h3.weaken (fun x hx => .inl (List.mem_append_left _ hx))).trans k3 fun x hx => ?_
 by_cases hlt : x < W.heap.size
 ·exact .inl (List.mem_append_right _ (List.mem_filter.2 ⟨hx, by simpa using hlt⟩))
 exact .inr (Nat.not_lt.1 hlt)
def Off (K : CKey) (T : Nat → Prop) (b : Nat) : Prop := b ≠ K.c ∧ b ≠ K.ms ∧ b ≠ K.mn ∧ ¬ T b
theorem CStep.at {K : CKey} {T T' : Nat → Prop} {W W' : World} (h : CStep K T T' W W') {b : Nat} {o : Obj} (hb : W.heap[b]? = some o) (ho : Off K T b) : W'.heap[b]? = some o := by
 obtain ⟨_, fl, h2, h3⟩ := h;refine h3.at hb fun hm => ?_
 rcases h2 b hm with h | h | h | h
 ·exact ho.1 h
 ·exact ho.2.1 h
 ·exact ho.2.2.1 h
 exact ho.2.2.2 h
theorem CStep.off {K : CKey} {T T' : Nat → Prop} {W W' : World} (h : CStep K T T' W W') {b : Nat} (hb : b < W.heap.size) (ho : Off K T b) : Off K T' b :=
 ⟨ho.1, ho.2.1, ho.2.2.1, fun ht => (h.1 b ht).elim ho.2.2.2 fun h2 => Nat.not_lt_of_le h2.1 hb⟩
theorem CK.lt {K : CKey} {T : Nat → Prop} {ua : Option Addr} {uc : Nat} {st : NS} {W : World} (h : CK K T ua uc st W) : K.c < W.heap.size ∧ K.mf < W.heap.size ∧ K.ms < W.heap.size ∧ K.mn < W.heap.size := by
 obtain ⟨_, _, h1, _⟩ := h.fns;obtain ⟨_, _, h2, _⟩ := h.same;obtain ⟨_, _, h3, _⟩ := h.seen;exact ⟨h_lt h.row, h_lt h1, h_lt h2, h_lt h3⟩
theorem CStep.loc {K : CKey} {T0 T : Nat → Prop} {w W W' : World} {fp : List Nat} (h : CStep K T0 T w W) (hk : Keeps fp W W') (hf : ∀ x ∈ fp, x = K.c ∨ w.heap.size ≤ x) : CStep K T0 T w W' := by
 obtain ⟨h1, fl, h2, h3⟩ := h;refine ⟨fun x hx => (h1 x hx).imp id fun h => ⟨h.1, Nat.lt_of_lt_of_le h.2 hk.size⟩, K.c :: fl, fun x hx => ?_, ?_⟩
 ·rcases List.mem_cons.1 hx with rfl | hx
  ·exact .inl rfl
  exact h2 x hx
 refine (h3.weaken (fp' := K.c :: fl) (fun x hx => .inl (List.mem_cons_of_mem _ hx))).trans hk fun x hx => ?_
 rcases hf x hx with rfl | h
 ·exact .inl (List.mem_cons_self ..)
 exact .inr h
theorem off_new {K : CKey} {T : Nat → Prop} {ua : Option Addr} {uc : Nat} {st : NS} {W : World} (h : CK K T ua uc st W) {b : Nat} (hb : W.heap.size ≤ b) : Off K T b := by
 have hl := h.lt;exact ⟨fun e => Nat.not_lt_of_le hb (e ▸ hl.1), fun e => Nat.not_lt_of_le hb (e ▸ hl.2.2.1), fun e => Nat.not_lt_of_le hb (e ▸ hl.2.2.2), fun ht => Nat.not_lt_of_le hb (h.up b ht)⟩
theorem CK.flook {K : CKey} {T : Nat → Prop} {ua : Option Addr} {uc : Nat} {st : NS} {W : World} (h : CK K T ua uc st W) (name : ByteArray) {v : Int} (hv : v = (YtkfillfkbhbbjaaGreatDoor.flook K.g name : Nat)) : (Instr.lookup 65 (.map (some K.mf)) (.string name) false).run Tryz.prog W = .ok (.int .i64 v) W := by
 obtain ⟨es, k, h1, h2⟩ := h.fns;have := run_klook (P := Tryz.prog) (keyS Tryz.underlying9) Tryz.underlying65 (z := .int .i64 0) (w := W) (by simp [go_sem]) h1 name;rw [this, h2 name, hv]
theorem CK.flook' {K : CKey} {T : Nat → Prop} {ua : Option Addr} {uc : Nat} {st : NS} {W : World} (h : CK K T ua uc st W) (name : ByteArray) {v : Int} (hv : v = (YtkfillfkbhbbjaaGreatDoor.flook K.g name : Nat)) : (Instr.lookup 65 (.map (some K.mf)) (.string name) false).run Tryz.prog W.drew = .ok (.int .i64 v) W.drew :=
 (h.kp0 (Keeps.drew [] W)).flook name hv
theorem CK.look_some {K : CKey} {T : Nat → Prop} {ua : Option Addr} {uc : Nat} {st : NS} {W : World} (h : CK K T ua uc st W) {a a' : Nat} {b b' : ByteArray} (hr : alook (a, b) st.same = some (a', b')) : (Instr.lookup 66 (.map (some K.ms)) (.agg #[.int .i64 a, .string b]) true).run Tryz.prog W = .ok (.tuple #[.agg #[.int .i64 a', .string b'], .bool true]) W := by
 exact qqd
theorem CK.look_none {K : CKey} {T : Nat → Prop} {ua : Option Addr} {uc : Nat} {st : NS} {W : World} (h : CK K T ua uc st W) {a : Nat} {b : ByteArray} (hr : alook (a, b) st.same = none) : (Instr.lookup 66 (.map (some K.ms)) (.agg #[.int .i64 a, .string b]) true).run Tryz.prog W = .ok (.tuple #[.agg #[.int .i64 0, .string ⟨#[]⟩], .bool false]) W := by
 exact qqd
theorem FuncE.keep0 {w w' : World} {S : Nat → Prop} {f : FuncP} {c : List Value} (h : FuncE w S f c) (hk : Keeps [] w w') : FuncE w' S f c := funcL.keep h hk jg fun _ h => h
theorem CK.func {K : CKey} (hK : CFix K) {T : Nat → Prop} {ua : Option Addr} {uc : Nat} {st : NS} {W : World} (h : CK K T ua uc st W) {i : Nat} (hi : i < K.g.funcs.length) :
  ∃ g o pa pc b0 b1 b2 b3 b4, K.fa = some ⟨g, o, none⟩ ∧ W.cell? ⟨g, o + i * 8, none⟩ = some (.string K.g.funcs[i].name) ∧ W.cell? ⟨g, o + i * 8 + 1, none⟩ = some (.slice pa K.g.funcs[i].params.length pc) ∧ W.cell? ⟨g, o + i * 8 + 2, none⟩ = some b0 ∧ W.cell? ⟨g, o + i * 8 + 3, none⟩ = some b1 ∧ W.cell? ⟨g, o + i * 8 + 4, none⟩ = some b2 ∧ W.cell? ⟨g, o + i * 8 + 5, none⟩ = some b3 ∧
   W.cell? ⟨g, o + i * 8 + 6, none⟩ = some b4 ∧ W.cell? ⟨g, o + i * 8 + 7, none⟩ = some (.complex .f64 K.g.funcs[i].re K.g.funcs[i].im) ∧ SliceR StrE K.w0 (fun _ => True) K.g.funcs[i].params (.slice pa K.g.funcs[i].params.length pc) ∧ NodeR K.w0 (fun _ => True) K.g.funcs[i].body (.agg #[b0, b1, b2, b3, b4]) := by
 obtain ⟨g, o, cap, c, hv, -, hg, ⟨pa, pc, b0, b1, b2, b3, b4, rfl, hp, hn⟩, hc⟩ := hK.funcs.get funcL hi
 have hc' : ∀ j u, [.string K.g.funcs[i].name, .slice pa K.g.funcs[i].params.length pc, b0, b1, b2, b3, b4, .complex .f64 K.g.funcs[i].re K.g.funcs[i].im][j]? = some u → W.cell? ⟨g, o + i * 8 + j, none⟩ = some u := fun j u hj => by
  rw [World.cell?_of_block (w := K.w0) (a := ⟨g, o + i * 8 + j, none⟩) (h.keep.block g hg jg), Nat.add_assoc]; exact hc j u hj
 have hfa : K.fa = some ⟨g, o, none⟩ := by injection hv
 exact ⟨g, o, pa, pc, b0, b1, b2, b3, b4, hfa, hc' 0 _ rfl, hc' 1 _ rfl, hc' 2 _ rfl, hc' 3 _ rfl, hc' 4 _ rfl, hc' 5 _ rfl, hc' 6 _ rfl, hc' 7 _ rfl, hp, hn⟩
theorem CK.str {K : CKey} {T : Nat → Prop} {ua : Option Addr} {uc : Nat} {st : NS} {W : World} (h : CK K T ua uc st W) {l : List ByteArray} {a : Option Addr} {cap : Nat} (hs : SliceR StrE K.w0 (fun _ => True) l (.slice a l.length cap)) {i : Nat} (hi : i < l.length) : ∃ g o, a = some ⟨g, o, none⟩ ∧ W.cell? ⟨g, o + i, none⟩ = some (.string l[i]) := by
 obtain ⟨g, o, cap, c, hv, -, hg, rfl, hc⟩ := hs.get strL hi;have hfa : a = some ⟨g, o, none⟩ := by injection hv
 refine ⟨g, o, hfa, ?_⟩;rw [World.cell?_of_block (w := K.w0) (a := ⟨g, o + i, none⟩) (h.keep.block g hg jg)];have := hc 0 _ rfl
 simpa using this
theorem CK.see {K : CKey} (hK : CFix K) {T : Nat → Prop} {ua : Option Addr} {uc : Nat} {st : NS} {W W' : World} (h : CK K T ua uc st W) (t : Thing) {es : List (Ent Thing)} {k : Nat} (he : SetL es k st.seen) (hk : Keeps [K.mn] W W')
  (hb : W'.heap[K.mn]? = some (.map (ents tval (kput t (.agg #[]) k es).1) (kput t (.agg #[]) k es).2)) : CK K T ua uc (seePut st t) W' :=
 ⟨h.keep.trans hk (by simp; exact hK.mn), hk.at h.row (by simp [hK.ne.2.2.1]), h.fns.keep hk (by simp [hK.ne.2.2.2.2.1]), h.same.keep hk (by simp [hK.ne.2.2.2.2.2]), SetT.put he hb, h.uses.kp useL hk (by simp; exact h.ns.2.2.2), fun x hx => Nat.lt_of_lt_of_le (h.up x hx) hk.size, h.dn, h.ns, h.fn, h.loops⟩
theorem CStep.mn {K : CKey} {T0 T : Nat → Prop} {w W W' : World} (h : CStep K T0 T w W) (hk : Keeps [K.mn] W W') : CStep K T0 T w W' :=
 h.trans ⟨fun _ h => .inl h, [K.mn], by simp, hk⟩
theorem run_see {K : CKey} {es : List (Ent Thing)} {k : Nat} {W : World} (hb : W.heap[K.mn]? = some (.map (ents tval es) k)) (a : Nat) (b : ByteArray) :
  (Instr.mapUpdate 67 (.map (some K.mn)) (.agg #[.int .i64 a, .string b]) (.agg #[])).run Tryz.prog W = .ok () (mset W K.mn (.map (ents tval (kput (a, b) (.agg #[]) k es).1) (kput (a, b) (.agg #[]) k es).2)) :=
 run_kput (P := Tryz.prog) keyT Tryz.underlying67 hb (a, b) (.agg #[])
theorem fault_y {K : CKey} (hK : CFix K) {T : Nat → Prop} {ua : Option Addr} {uc : Nat} {st : NS} {w : World} (h : CK K T ua uc st w) (re im : Nat) (e : Int) (h0 : (st.e == 0) = true) : Calls Tryz.prog 42 #[.pointer (some ⟨K.c, 0, none⟩), .complex .f64 re im, .int .i64 e] w fun r w' => r = .returned (.tuple #[]) ∧ CK K T ua uc ({ st with re := re, im := im, e := e }) w' ∧ CStep K T T w w' := by
 have HC0 := zh h; have HS0 := zh (CStep.refl K T w);clear h
 go_enter Tryz.func42, Tryz.ntmps42
 obtain ⟨l_c, xc_0, xc_1, xc_2, xc_3, xc_4, xc_5, xc_6, xc_7, xc_8, xc_9, xc_10, yc_0, yc_1, yc_2, yc_3, yc_4, yc_5, yc_6, yc_7, yc_8, yc_9, yc_10⟩ := cf11 HC0.out.row;obtain ⟨-, l_mf, l_ms, l_mn⟩ := HC0.out.lt
 go_wp2_with fail
 refine end_at (v := .tuple #[]) (fun W => Keeps [K.c] w W ∧ W.heap[K.c]? = some (.cells #[.slice K.ra K.g.rules.length K.rc, .slice K.fa K.g.funcs.length K.fc, .map (some K.mf), .int .i64 st.fn, .int .i64 st.rule, .int .i64 st.loops, .slice ua st.uses.length uc, .map (some K.ms), .map (some K.mn), .complex .f64 re im, .int .i64 e] 70 (0, 0))) ⟨zg, (qb HC0.out.row l_c)⟩ (fun w1 hW => ?_) rfl (fun w1 hW => ?_)
 ·obtain ⟨Kw1, cw1_c⟩ := hW;exact jnb
 obtain ⟨Kw1, cw1_c⟩ := hW;have HCw1 : Hid (CK K T ua uc ({ st with re := re, im := im, e := e }) w1) := zh (HC0.out.upd hK Kw1 cw1_c jg jg jg jg jg rfl rfl rfl HC0.out.fn HC0.out.loops);have HSw1 := zh (HS0.out.loc Kw1 qeb);clear Kw1 cw1_c l_c xc_0 xc_1 xc_2 xc_3 xc_4 xc_5 xc_6 xc_7 xc_8 xc_9 xc_10 yc_0 yc_1 yc_2 yc_3 yc_4 yc_5 yc_6 yc_7 yc_8 yc_9 yc_10 l_mf l_ms l_mn HC0 HS0;exact ⟨rfl, HCw1.out, HSw1.out⟩
theorem fault_n {K : CKey} (hK : CFix K) {T : Nat → Prop} {ua : Option Addr} {uc : Nat} {st : NS} {w : World} (h : CK K T ua uc st w) (re im : Nat) (e : Int) (h0 : (st.e == 0) = false) : Calls Tryz.prog 42 #[.pointer (some ⟨K.c, 0, none⟩), .complex .f64 re im, .int .i64 e] w fun r w' => r = .returned (.tuple #[]) ∧ CK K T ua uc (st) w' ∧ CStep K T T w w' := by
 have HC0 := zh h; have HS0 := zh (CStep.refl K T w);clear h
 go_enter Tryz.func42, Tryz.ntmps42
 obtain ⟨l_c, xc_0, xc_1, xc_2, xc_3, xc_4, xc_5, xc_6, xc_7, xc_8, xc_9, xc_10, yc_0, yc_1, yc_2, yc_3, yc_4, yc_5, yc_6, yc_7, yc_8, yc_9, yc_10⟩ := cf11 HC0.out.row;obtain ⟨-, l_mf, l_ms, l_mn⟩ := HC0.out.lt
 go_wp2_with fail
 refine end_at (v := .tuple #[]) (fun W => Keeps [] w W) zg (fun w1 hW => ?_) rfl (fun w1 hW => ?_)
 ·have Kw1 : Keeps [] w w1 := hW;exact jnb
 have Kw1 : Keeps [] w w1 := hW;have HCw1 := zh (HC0.out.kp0 Kw1);have HSw1 := zh (HS0.out.loc Kw1 jg);clear Kw1 l_c xc_0 xc_1 xc_2 xc_3 xc_4 xc_5 xc_6 xc_7 xc_8 xc_9 xc_10 yc_0 yc_1 yc_2 yc_3 yc_4 yc_5 yc_6 yc_7 yc_8 yc_9 yc_10 l_mf l_ms l_mn HC0 HS0;exact ⟨rfl, HCw1.out, HSw1.out⟩
theorem fault_any {K : CKey} (hK : CFix K) {T : Nat → Prop} {ua : Option Addr} {uc : Nat} {st : NS} {w : World} (h : CK K T ua uc st w) (re im : Nat) (e : Int) : Calls Tryz.prog 42 #[.pointer (some ⟨K.c, 0, none⟩), .complex .f64 re im, .int .i64 e] w fun r w' => ∃ T' ua' uc', r = .returned (.tuple #[]) ∧ CK K T' ua' uc' (faultF st re im e) w' ∧ CStep K T T' w w' := by
 unfold faultF
 by_cases h0 : st.e = 0
 ·rw [if_pos h0];exact (fault_y hK h re im e jeb).mono fun _ _ ⟨h1, h2, h3⟩ => ⟨_, _, _, h1, h2, h3⟩
 rw [if_neg h0];exact (fault_n hK h re im e jeb).mono fun _ _ ⟨h1, h2, h3⟩ => ⟨_, _, _, h1, h2, h3⟩
end Go.Proofs.YtkfillfkbhbbjaaGreatDoor
