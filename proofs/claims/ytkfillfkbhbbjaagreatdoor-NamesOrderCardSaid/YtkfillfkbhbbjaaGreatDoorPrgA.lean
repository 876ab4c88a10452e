/- LevelsR, JoinP, Data, PrgA. -/
import Derived.Test.YtkfillfkbhbbjaaGreatDoorLevelsQ
set_option maxRecDepth 100000
set_option maxHeartbeats 4000000
set_option linter.unusedSimpArgs false
set_option linter.unusedVariables false
namespace Go.Proofs.YtkfillfkbhbbjaaGreatDoor
open Go.RowKit
def KidsI (s : ByteArray) (p R B : Nat) (w : World) (c0 c1 c2 c4 : Value) (l : List Node) (st : PSt) (W : World) : Prop :=
 ∃ (v : Value) (T : Nat → Prop) (U : Nat), OwnL NodeE 50 5 W w.heap.size T l v ∧ (∀ x, T x → x < U) ∧ U ≤ W.heap.size ∧ (∀ x, T x → w.heap.size ≤ x) ∧ ¬ T p ∧ ¬ T R ∧ ¬ T B ∧ PP s p st W ∧ Keeps [p] w W ∧
  W.heap[R]? = some (.cells #[.int .i64 0, .string ⟨#[]⟩, .float .f64 0, .slice none 0 0, .complex .f64 0 0] 50 (0, 0)) ∧ W.heap[B]? = some (.cells #[c0, c1, c2, v, c4] 50 (0, 0))
def BlockI (s : ByteArray) (p R B : Nat) (w : World) (c0 c1 c2 c4 : Value) (rec : Rec) (l' : List Node) (st' : PSt) (g : Nat) (W : World) : Prop :=
 ∃ (l : List Node) (st : PSt), stmtsF s rec g l st = some (l', st') ∧ l.length + g ≤ 60 ∧ KidsI s p R B w c0 c1 c2 c4 l st W
theorem step_app_node {ops : Array Oper} {o : Oper} {a : Act} {w : World} {K : Act → World → Prop} {Q : Exit → Act → World → Prop} {Z : Prop} (hgd : o.guard = none) (s y : Operand) (ho : o.op = .call { callee := .builtin .append, args := #[s, y], argTypes := #[47, 47] }) {b G cap : Nat} {T S : Nat → Prop} {l : List Node} {x : Node} {v c0 c1 c2 c3 c4 : Value} (hs : a.eval s = v) (hy : a.eval y = .slice (some ⟨G, 0, none⟩) 1 cap) (hO : OwnL NodeE 50 5 w b T l v) (hG : w.heap[G]? = some (.cells #[c0, c1, c2, c3, c4] 50 (0, 0))) (hm : NodeR w S x (.agg #[c0, c1, c2, c3, c4])) (hd : ∀ g, S g → ¬ T g) (hS : ∀ g, S g → g < w.heap.size) (hT : ∀ g, T g → g < w.heap.size) (hb : b ≤ w.heap.size) (hl : l.length ≤ 400000) (h : ∀ v' w' fl, (∀ x ∈ fl, T x) → Keeps fl w w' → OwnL NodeE 50 5 w' b (fun g => T g ∨ S g ∨ (w.heap.size ≤ g ∧ g < w'.heap.size)) (l ++ [x]) v' → K (a.put o.dst v') w') : if Region.wanted o (yielded ops a.tmps) = true then Oper.wp Tryz.prog o a w K Q else Z := by
 obtain ⟨i, hi, hz, hsz, hby⟩ := info50;obtain ⟨xs, hown, ht, hx⟩ := hO;refine step_append_lies w hgd s y 47 ho b 50 i _ 5 72 Tryz.underlying47 hi hz hsz hby rfl zi v l.length xs hs hown ⟨G, 0, none⟩ 1 cap [c0, c1, c2, c3, c4] hy rfl (fun j u hj => ?_) (nodeL.one (S := S) (a := x) ⟨rfl, hm⟩) qg qbb qg hb _ rfl fun g cp w1 h1 h2 h3 h4 => ?_
 ·have := cell_of_heap hG j;exact qmd
 obtain ⟨q1, fl, q2, q3⟩ := own_grown nodeL hown ht hx (c := [c0, c1, c2, c3, c4]) ⟨rfl, hm⟩ hd hS hT h1 h2 h3 h4;exact h _ _ fl q2 q3 q1
theorem block_lv {s : ByteArray} {p : Nat} {st st1 st2 st3 st4 : PSt} {l' : List Node} {rec : Rec} {kd : Int} {tx : ByteArray} {nm fr te : Nat} (hrec : ∀ st st' n, rec .stmt st = some (n, st') → Hands s p st st' n 127) (ht : nextF s st.pos false = some ⟨kd, tx, nm, fr, te⟩) (hw : wantF s st ⟨#[123]⟩ = some st1) (hl : linesA s st1 ⟨#[59]⟩ = some st2) (hx : stmtsF s rec 50 [] st2 = some (l', st3)) (hv : wantF s st3 ⟨#[125]⟩ = some st4) : Hands s p st st4 (.mk 30 ⟨#[]⟩ 0 l' (placeOf s fr).1 (placeOf s fr).2) 107 := by
 intro w h;have g_p := h.p;have g_0 : 14 < w.heap.size := Nat.lt_trans g_p (h_lt h.row);have HP0 := zh h; have HK0 := zh (Keeps.refl [p] w); have HT := zh ht; have HW := zh hw; have HL : Hid (linesF s ⟨#[59]⟩ (s.size + 2) st1 = some st2) := zh hl; have HRec := zh hrec; have HG := zh hx; have HV := zh hv;clear h hrec ht hw hl hx hv
 go_enter Tryz.func107, Tryz.ntmps107
 have l_p := h_lt HP0.out.row
 go_wp2_with fail
 refine qrb ?_;rintro w1 ⟨Kw1, cw1_R⟩;have ⟨n_p_R, n_R_p⟩ := zne l_p;have o_R : w.heap.size ≤ w.heap.size := Nat.le_refl _;have g_R : 14 < w.heap.size := Nat.lt_trans g_p l_p;have HKw1 := zh (HK0.out.trans Kw1 jg);have HPw1 := zh (HP0.out.keep Kw1);have Rw1_R := zh cw1_R;clear Kw1 cw1_R l_p HK0 HP0;refine zxb ?_;rintro r e2 ⟨rfl, hk⟩;have Re2_R := zh (hk.at Rw1_R.out jg);have HKe2 := zh (HKw1.out.trans hk jg);have HPe2 := zh (HPw1.out.keep hk);clear hk Rw1_R HKw1 HPw1;have l_p := h_lt HPe2.out.row;have l_p_1 : p < e2.heap.size + 1 := Nat.lt_add_right 1 l_p;have l_R := h_lt Re2_R.out;have l_R_1 : w.heap.size < e2.heap.size + 1 := Nat.lt_add_right 1 l_R
 go_wp2_with fail
 refine calls_at (fun W => Keeps [] e2 W ∧ W.heap[e2.heap.size]? = some (.cells #[.int .i64 kd, .string tx, .float .f64 nm, .int .i64 fr, .int .i64 te] 90 (0, 0)) ∧ W.heap[e2.heap.size + 1]? = some (.cells #[.int .i64 30, .string ⟨#[]⟩, .float .f64 0, .slice none 0 0, .complex .f64 (placeOf s fr).1 (placeOf s fr).2] 50 (0, 0))) ⟨zg, zd, zd⟩ ?_;rintro w3 ⟨Kw3, cw3_T, cw3_B⟩;have ⟨n_p_T, n_T_p⟩ := zne l_p;have ⟨n_R_T, n_T_R⟩ := zne l_R;have o_T : w.heap.size ≤ e2.heap.size := HKe2.out.size;have g_T : 14 < e2.heap.size := Nat.lt_trans g_p l_p;have ⟨n_p_B, n_B_p⟩ := zne (Nat.lt_add_right 1 l_p);have ⟨n_R_B, n_B_R⟩ := zne (Nat.lt_add_right 1 l_R);have n_T_B : e2.heap.size ≠ e2.heap.size + 1 := by simp
 have n_B_T : e2.heap.size + 1 ≠ e2.heap.size := by simp
 have o_B : w.heap.size ≤ e2.heap.size + 1 := Nat.le_trans (HKe2.out.size) (Nat.le_add_right _ 1);have g_B : 14 < e2.heap.size + 1 := Nat.lt_trans g_p (Nat.lt_add_right 1 l_p);have Rw3_R := zh (Kw3.at Re2_R.out jg);have HKw3 := zh (HKe2.out.trans Kw3 jg);have HPw3 := zh (HPe2.out.keep Kw3);have Rw3_T := zh cw3_T;have Rw3_B := zh cw3_B;clear Kw3 cw3_T cw3_B l_p l_p_1 l_R l_R_1 Re2_R HKe2 HPe2;refine (want_any HPw3.out HW.out).mono ?_;rintro r e4 ⟨rfl, hp, hk⟩;have Re4_R := zh (hk.at Rw3_R.out jk);have Re4_T := zh (hk.at Rw3_T.out jl);have Re4_B := zh (hk.at Rw3_B.out zr);have HKe4 := zh (HKw3.out.trans hk jg);have HPne4 := zh hp;clear hp;clear hk Rw3_R Rw3_T Rw3_B HKw3 HPw3;have l_p := h_lt HPne4.out.row;have l_R := h_lt Re4_R.out;have l_T := h_lt Re4_T.out;have l_B := h_lt Re4_B.out
 go_wp2_with fail
 clear l_p l_R l_T l_B;refine (lines_any HPne4.out HL.out).mono ?_;rintro r e5 ⟨rfl, hp, hk⟩;have Re5_R := zh (hk.at Re4_R.out jk);have Re5_T := zh (hk.at Re4_T.out jl);have Re5_B := zh (hk.at Re4_B.out zr);have HKe5 := zh (HKe4.out.trans hk jg);have HPne5 := zh hp;clear hp;clear hk Re4_R Re4_T Re4_B HKe4 HPne4;have l_p := h_lt HPne5.out.row;have l_R := h_lt Re5_R.out;have l_T := h_lt Re5_T.out;have l_B := h_lt Re5_B.out
 go_wp2_with fail
 clear l_p l_R l_T l_B
 go_loopg [] 50 (fun g wr => BlockI s p w.heap.size (e2.heap.size + 1) w (.int .i64 30) (.string ⟨#[]⟩) (.float .f64 0) (.complex .f64 (placeOf s fr).1 (placeOf s fr).2) rec l' st3 g wr)
 case atStart => exact ⟨[], st2, HG.out, by simp, _, fun _ => False, 0, OwnL.nil, fun _ h => h.elim, Nat.zero_le _, fun _ h => h.elim, fun h => h, fun h => h, fun h => h, HPne5.out, HKe5.out, Re5_R.out, Re5_B.out⟩
 clear HG;obtain ⟨l, st1, hG, hlen, v, T, U, hl, up_l, us_l, dn_l, ns_l_p, ns_l_R, ns_l_B, hp, hk, hR, hB⟩ := hrel;obtain ⟨ka, kc, rfl, -⟩ := hl.slice;have HL1 := zh hl; have HPr := zh hp; have HKr := zh hk; have RR := zh hR; have RB := zh hB;clear hl hp hk hR hB
 cases gk with
 | zero => simp [stmtsF] at hG
 | succ f =>
  rw [stmtsF] at hG
  cases ho : isF s st1 (bs [125]) with
  | none => rw [ho] at hG; simp at hG
  | some b =>
   rw [ho] at hG;simp only [Option.bind_eq_bind, Option.bind_some] at hG;have HB : Hid (isF s st1 ⟨#[125]⟩ = some b) := zh ho;clear ho
   cases b with
   | true =>
    simp only [Option.some.injEq, Prod.mk.injEq, if_true] at hG;obtain ⟨rfl, rfl⟩ := hG;have l_p := h_lt HPr.out.row;have l_R := h_lt RR.out;have l_B := h_lt RB.out
    go_wp2_with fail
    clear l_p l_R l_B;refine (ok_any HPr.out).mono ?_;rintro r w' ⟨rfl, hw'⟩;rw [hw'];clear hw';have l_p := h_lt HPr.out.row;have l_R := h_lt RR.out;have l_B := h_lt RB.out
    go_wp2_with fail
    clear l_p l_R l_B;refine (isF_any HPr.out HB.out).mono ?_;rintro r e51 ⟨rfl, hk⟩;have Re51_R := zh (hk.at RR.out jg);have Re51_B := zh (hk.at RB.out jg);have HKe51 := zh (HKr.out.trans hk jg);have HPe51 := zh (HPr.out.keep hk);have le51 := zh (OwnL.kp nodeL HL1.out hk jg);have us_le51 := Nat.le_trans us_l hk.size;clear hk RR RB HKr HPr HL1 us_l;have l_p := h_lt HPe51.out.row;have l_R := h_lt Re51_R.out;have l_B := h_lt Re51_B.out
    go_wp2_with fail
    clear l_p l_R l_B;refine (want_any HPe51.out HV.out).mono ?_;rintro r e52 ⟨rfl, hp, hk⟩;have Re52_R := zh (hk.at Re51_R.out jk);have Re52_B := zh (hk.at Re51_B.out zr);have HKe52 := zh (HKe51.out.trans hk jg);have le52 := zh (OwnL.kp nodeL le51.out hk jdb);have us_le52 := Nat.le_trans us_le51 hk.size;have HPne52 := zh hp;clear hp;clear hk Re51_R Re51_B HKe51 le51 us_le51 HPe51;have l_p := h_lt HPne52.out.row;obtain ⟨l_R, xR_0, xR_1, xR_2, xR_3, xR_4, yR_0, yR_1, yR_2, yR_3, yR_4⟩ := cf5 Re52_R.out;obtain ⟨l_B, xB_0, xB_1, xB_2, xB_3, xB_4, yB_0, yB_1, yB_2, yB_3, yB_4⟩ := cf5 Re52_B.out
    go_wp2_with fail
    refine ret_at (v := .agg #[.int .i64 30, .string ⟨#[]⟩, .float .f64 0, .slice ka l.length kc, .complex .f64 (placeOf s fr).1 (placeOf s fr).2]) (fun W => Keeps [w.heap.size] e52 W ∧ W.heap[w.heap.size]? = some (.cells #[.int .i64 30, .string ⟨#[]⟩, .float .f64 0, .slice ka l.length kc, .complex .f64 (placeOf s fr).1 (placeOf s fr).2] 50 (0, 0))) ⟨zg, (qb Re52_R.out l_R)⟩ (fun w53 hW => ?_) rfl (fun w53 hW => ?_)
    ·obtain ⟨Kw53, cw53_R⟩ := hW;have q0 := cell_of_heap cw53_R 0;have q1 := cell_of_heap cw53_R 1;have q2 := cell_of_heap cw53_R 2;have q3 := cell_of_heap cw53_R 3;have q4 := cell_of_heap cw53_R 4;simp at q0 q1 q2 q3 q4;exact jsb
    obtain ⟨Kw53, cw53_R⟩ := hW;have Rw53_B := zh (Kw53.at Re52_B.out jx);have HKw53 := zh (HKe52.out.trans Kw53 zp);have HPw53 := zh (HPne52.out.keepN Kw53 jr zt);have lw53 := zh (OwnL.kp nodeL le52.out Kw53 (by simp [ns_l_R]));have us_lw53 := Nat.le_trans us_le52 Kw53.size;have Rw53_R := zh cw53_R;clear Kw53 cw53_R l_p l_R xR_0 xR_1 xR_2 xR_3 xR_4 yR_0 yR_1 yR_2 yR_3 yR_4 l_B xB_0 xB_1 xB_2 xB_3 xB_4 yB_0 yB_1 yB_2 yB_3 yB_4 Re52_B HKe52 HPne52 le52 us_le52 Re52_R;exact ⟨_, rfl, .mk ((kids_of_own lw53.out).to dn_l), HPw53.out, HKw53.out⟩
   | false =>
    simp only [Bool.false_eq_true, if_false] at hG
    cases hm : rec .stmt st1 with
    | none => rw [hm] at hG; simp at hG
    | some y =>
     rw [hm] at hG;obtain ⟨m, st2⟩ := y;simp only [Option.bind_some] at hG
     cases hy : linesA s st2 (bs [59]) with
     | none => rw [hy] at hG; simp at hG
     | some st4 =>
      rw [hy] at hG;simp only [Option.bind_some] at hG;have HM := zh (HRec.out _ _ _ hm); have HF := zh hG; have HY : Hid (linesF s ⟨#[59]⟩ (s.size + 2) st2 = some st4) := zh hy;clear hm hG hy;have l_p := h_lt HPr.out.row;have l_R := h_lt RR.out;have l_B := h_lt RB.out
      go_wp2_with fail
      clear l_p l_R l_B;refine (ok_any HPr.out).mono ?_;rintro r w' ⟨rfl, hw'⟩;rw [hw'];clear hw';have l_p := h_lt HPr.out.row;have l_R := h_lt RR.out;have l_B := h_lt RB.out
      go_wp2_with fail
      clear l_p l_R l_B;refine (isF_any HPr.out HB.out).mono ?_;rintro r e51 ⟨rfl, hk⟩;have Re51_R := zh (hk.at RR.out jg);have Re51_B := zh (hk.at RB.out jg);have HKe51 := zh (HKr.out.trans hk jg);have HPe51 := zh (HPr.out.keep hk);have le51 := zh (OwnL.kp nodeL HL1.out hk jg);have us_le51 := Nat.le_trans us_l hk.size;clear hk RR RB HKr HPr HL1 us_l;have l_p := h_lt HPe51.out.row;obtain ⟨l_R, xR_0, xR_1, xR_2, xR_3, xR_4, yR_0, yR_1, yR_2, yR_3, yR_4⟩ := cf5 Re51_R.out;obtain ⟨l_B, xB_0, xB_1, xB_2, xB_3, xB_4, yB_0, yB_1, yB_2, yB_3, yB_4⟩ := cf5 Re51_B.out
      go_upto_region 6 with fail
      have HCm := zh (hands_at HM.out HPe51.out)
      go_cut [] (fun W => KidsI s p w.heap.size (e2.heap.size + 1) w (.int .i64 30) (.string ⟨#[]⟩) (.float .f64 0) (.complex .f64 (placeOf s fr).1 (placeOf s fr).2) (l ++ [m]) ⟨st2.pos, st2.opn, st2.ng⟩ W)
      case first =>
       go_region_law (first
        | (refine step_app_node rfl (.tmp 25) (.tmp 28) rfl rfl rfl (OwnL.kp nodeL hO (Keeps.alloc [] u_ _) jg) (h_new u_ _) (hn.keep0 (Keeps.alloc [] u_ _)) (fun g hs ht => Nat.not_lt_of_le hs.1 (Nat.lt_of_lt_of_le (up_l g ht) us_le51)) (fun g hs => Nat.lt_of_lt_of_le hs.2 (Keeps.alloc [] u_ _).size) (fun g ht => Nat.lt_of_lt_of_le (up_l g ht) (Nat.le_trans us_le51 (Nat.le_trans hk.size (Keeps.alloc [] u_ _).size))) (Nat.le_trans (HKe51.out.size) (Nat.le_trans hk.size (Keeps.alloc [] u_ _).size)) qg ?_; rintro va wa fl hfl hka hown; obtain ⟨ka2, kc2, hva, -⟩ := hown.slice; generalize (l ++ [m]).length = kn at hva; subst hva; have s_B := hka.at (h_alloc r_B) (fun h => ns_l_B (hfl _ h)); have s3 := cell_of_heap s_B 3; have sf3 := frozen_of_heap s_B 3; have l_B2 := h_lt s_B; simp at s3)
        | (refine step_call (f := 127) (vals := #[.pointer (some ⟨p, 0, none⟩)]) rfl _ rfl jh (HCm.out _ zg) ?_; rintro v u_ ⟨hn, hp, hk⟩; obtain ⟨mt, mm, ma, ml, mc, mr, mi, rfl, -, -⟩ := hn.shape; have r_B := hk.at Re51_B.out zr; have r_R := hk.at Re51_R.out jk; have hO := OwnL.kp nodeL le51.out hk jdb; have l_B := h_lt r_B; have zB_0 := cell_of_heap r_B 0; have zfB_0 := frozen_of_heap r_B 0; have zB_1 := cell_of_heap r_B 1; have zfB_1 := frozen_of_heap r_B 1; have zB_2 := cell_of_heap r_B 2; have zfB_2 := frozen_of_heap r_B 2; have zB_3 := cell_of_heap r_B 3; have zfB_3 := frozen_of_heap r_B 3; have zB_4 := cell_of_heap r_B 4; have zfB_4 := frozen_of_heap r_B 4; simp at zB_0 zB_1 zB_2 zB_3 zB_4))
       all_goals
        go_wp2_with fail
        go_meet
        refine inv_at (fun W => Keeps [e2.heap.size + 1] wa W ∧ W.heap[e2.heap.size + 1]? = some (.cells #[.int .i64 30, .string ⟨#[]⟩, .float .f64 0, .slice ka2 kn kc2, .complex .f64 (placeOf s fr).1 (placeOf s fr).2] 50 (0, 0))) ⟨zg, (by simp only [heap_set_if, reduceIte, Option.map_some, Obj.put, s_B] <;> rfl)⟩ ?_;rintro W ⟨hkW, cB⟩;have hua := Keeps.alloc [] u_ (.cells #[.int .i64 m.kind, .string mt, .float .f64 mm, .slice ma ml mc, .complex .f64 mr mi] 50);have hsB : e2.heap.size + 1 < u_.heap.size := l_B
        exact ⟨_, _, W.heap.size, OwnL.kp nodeL hown hkW (by simp only [List.mem_singleton, forall_eq]; exact fun h => h.elim ns_l_B fun h => h.elim (fun h => Nat.not_lt_of_le h.1 (h_lt Re51_B.out)) fun h => Nat.not_lt_of_le h.1 (Nat.lt_of_lt_of_le hsB hua.size)),
         fun x h => h.elim (fun h => Nat.lt_of_lt_of_le (up_l x h) (Nat.le_trans us_le51 (Nat.le_trans hk.size (Nat.le_trans hua.size (Nat.le_trans hka.size hkW.size))))) fun h => h.elim (fun h => Nat.lt_of_lt_of_le h.2 (Nat.le_trans hua.size (Nat.le_trans hka.size hkW.size))) fun h => Nat.lt_of_lt_of_le h.2 hkW.size, Nat.le_refl _,
         fun x h => h.elim (dn_l x) fun h => h.elim (fun h => Nat.le_trans (HKe51.out.size) h.1) fun h => Nat.le_trans (Nat.le_trans (HKe51.out.size) (Nat.le_trans hk.size hua.size)) h.1,
         fun h => h.elim ns_l_p fun h => h.elim (fun h => Nat.not_lt_of_le h.1 (h_lt HPe51.out.row)) fun h => Nat.not_lt_of_le h.1 (Nat.lt_of_lt_of_le (h_lt hp.row) hua.size),
         fun h => h.elim ns_l_R fun h => h.elim (fun h => Nat.not_lt_of_le h.1 (h_lt Re51_R.out)) fun h => Nat.not_lt_of_le h.1 (Nat.lt_of_lt_of_le (h_lt r_R) hua.size),
         fun h => h.elim ns_l_B fun h => h.elim (fun h => Nat.not_lt_of_le h.1 (h_lt Re51_B.out)) fun h => Nat.not_lt_of_le h.1 (Nat.lt_of_lt_of_le hsB hua.size),
         ((hp.keep hua).keepN hka (fun h => ns_l_p (hfl _ h)) (fun x h => Nat.lt_of_lt_of_le g_0 (dn_l x (hfl x h)))).keepN hkW (by simp [n_p_B]) (by simp [g_B]),
         (((HKe51.out.trans hk jg).trans hua jg).trans hka (fun x h => .inr (dn_l x (hfl x h)))).trans hkW (by simp [o_B]),
         hkW.at (hka.at (h_alloc r_R) (fun h => ns_l_R (hfl _ h))) (by simp [n_R_B]), cB⟩
      obtain ⟨v2, T2, U2, hl, up_k, us_k, dn_k, ns_k_p, ns_k_R, ns_k_B, hp, hk, hR, hB⟩ := hcut;have HL2 := zh hl; have HPc := zh hp; have HKc := zh hk; have RR2 := zh hR; have RB2 := zh hB;clear hl hp hk hR hB;have l_p := h_lt HPc.out.row;have l_R := h_lt RR2.out;have l_B := h_lt RB2.out
      go_wp2_with fail
      clear l_p l_R l_B;refine (lines_any HPc.out HY.out).mono ?_;rintro r e81 ⟨rfl, hp, hk⟩;have Re81_R := zh (hk.at RR2.out jk);have Re81_B := zh (hk.at RB2.out zr);have HKe81 := zh (HKc.out.trans hk jg);have ke81 := zh (OwnL.kp nodeL HL2.out hk (by simp [ns_k_p]));have us_ke81 := Nat.le_trans us_k hk.size;have HPne81 := zh hp;clear hp;clear hk RR2 RB2 HKc HL2 us_k HPc;have l_p := h_lt HPne81.out.row;have l_R := h_lt Re81_R.out;have l_B := h_lt Re81_B.out
      go_wp2_with fail
      go_roundg f
      case measure => omega
      exact ⟨l ++ [m], st4, HF.out, by rw [List.length_append, List.length_singleton]; omega, v2, T2, U2, ke81.out, up_k, us_ke81, dn_k, ns_k_p, ns_k_R, ns_k_B, HPne81.out, HKe81.out, Re81_R.out, Re81_B.out⟩
def HandsW (s : ByteArray) (p : Nat) : Wh → PSt → PSt → Node → Prop
 | .expr, st, st', n => Hands s p st st' n 109
 | .cond, st, st', n => Hands s p st st' n 130
 | .or, st, st', n => Hands s p st st' n 170
 | .and, st, st', n => Hands s p st st' n 193
 | .in, st, st', n => Hands s p st st' n 226
 | .match, st, st', n => Hands s p st st' n 256
 | .compare, st, st', n => Hands s p st st' n 266
 | .concat, st, st', n => Hands s p st st' n 270
 | .sum, st, st', n => Hands s p st st' n 273
 | .product, st, st', n => Hands s p st st' n 281
 | .unary, st, st', n => Hands s p st st' n 286
 | .power, st, st', n => Hands s p st st' n 288
 | .post, st, st', n => Hands s p st st' n 290
 | .primary, st, st', n => Hands s p st st' n 292
 | .operand, st, st', n => Hands s p st st' n 294
 | .dollar, st, st', n => Hands s p st st' n 296
 | .simple, st, st', n => Hands s p st st' n 165
 | .stmt, st, st', n => Hands s p st st' n 127
 | .block, st, st', n => Hands s p st st' n 107
theorem hereF_some {s : ByteArray} {st : PSt} {op : Bool} {t : Tok} {re im : Nat} (h : hereF s st op = some (t, re, im)) : nextF s st.pos op = some t ∧ re = (placeOf s t.fr).1 ∧ im = (placeOf s t.fr).2 := by
 unfold hereF at h
 cases ht : nextF s st.pos op with
 | none => rw [ht] at h; simp at h
 | some t2 =>
  rw [ht] at h;simp only [Option.bind_eq_bind, Option.bind_some, Option.some.injEq, Prod.mk.injEq] at h;obtain ⟨rfl, h2⟩ := h;exact ⟨rfl, by rw [h2], by rw [h2]⟩
theorem same_false {a : ByteArray} {l : List UInt8} (h : same a (bs l) = false) : (a.toList == l) = false := by
 rw [← same_eq, show (bs l).toList = l from by rw [bs, ByteArray.toList_mk]] at h; exact h
theorem same_true {a : ByteArray} {l : List UInt8} (h : same a (bs l) = true) : (a.toList == l) = true := by
 rw [← same_eq, show (bs l).toList = l from by rw [bs, ByteArray.toList_mk]] at h; exact h
theorem take_false {s : ByteArray} {st st' : PSt} {x : ByteArray} (h : takeF s st x = some (false, st')) : st' = st ∧ notF s st x = some () := by
 unfold takeF at h;unfold notF isF
 cases ht : nextF s st.pos false with
 | none => rw [ht] at h; simp at h
 | some t =>
  rw [ht] at h;simp only [Option.bind_eq_bind, Option.bind_some] at h ⊢
  cases hb : isT t x
  ·rw [hb] at h;simp only [Bool.false_eq_true, if_false, Option.some.injEq, Prod.mk.injEq, true_and] at h;exact ⟨h.symm, by simp⟩
  rw [hb] at h;simp only [if_true] at h
  cases ho : opnF x st.opn with
  | none => rw [ho] at h; simp at h
  | some o => rw [ho] at h; simp at h
section
variable {s : ByteArray} {p : Nat} {rec : Rec} (hrec : ∀ wh st st' n, rec wh st = some (n, st') → HandsW s p wh st st' n)
include hrec
theorem st_expr {st st' : PSt} {n : Node} (hx : step s rec .expr st = some (n, st')) : HandsW s p .expr st st' n := by
 simp only [step, Option.bind_eq_bind, Option.bind_eq_some_iff, Prod.exists] at hx;obtain ⟨n1, st1, h1, hx⟩ := hx;have hs : Hands s p st st1 n1 130 := hrec _ _ _ _ h1
 cases hl : lval n1 with
 | false =>
  rw [hl] at hx;simp only [Bool.false_eq_true, if_false, Option.some.injEq, Prod.mk.injEq] at hx;obtain ⟨rfl, rfl⟩ := hx;exact expr_no hs hl
 | true =>
  rw [hl] at hx;simp only [if_true, Option.bind_eq_some_iff, Prod.exists] at hx;obtain ⟨x, st2, h2, hx⟩ := hx
  cases x with
  | none =>
   obtain ⟨rfl, hno⟩ := oneF_none h2;simp only [Option.some.injEq, Prod.mk.injEq] at hx;obtain ⟨rfl, rfl⟩ := hx;exact expr_none hs hl hno
  | some y =>
   obtain ⟨x, re, im⟩ := y;obtain ⟨t, ht, h9, ha, rfl, rfl, rfl, rfl⟩ := oneF_some h2;simp only [Option.bind_eq_some_iff, Prod.exists, Option.some.injEq, Prod.mk.injEq] at hx;obtain ⟨m, st3, h3, rfl, rfl⟩ := hx;exact expr_yes hs hl ht h9 ha (hrec _ _ _ _ h3)
theorem st_post {st st' : PSt} {n : Node} (hx : step s rec .post st = some (n, st')) : HandsW s p .post st st' n := by
 simp only [step, Option.bind_eq_bind, Option.bind_eq_some_iff, Prod.exists] at hx;obtain ⟨n1, st1, h1, hx⟩ := hx;have hs : Hands s p st st1 n1 292 := hrec _ _ _ _ h1
 cases hl : lval n1 with
 | false =>
  rw [hl] at hx;simp only [Bool.false_eq_true, if_false, Option.some.injEq, Prod.mk.injEq] at hx;obtain ⟨rfl, rfl⟩ := hx;exact post_no hs hl
 | true =>
  rw [hl] at hx;simp only [if_true, Option.bind_eq_some_iff, Prod.exists] at hx;obtain ⟨x, st2, h2, hx⟩ := hx
  cases x with
  | none =>
   obtain ⟨rfl, hno⟩ := oneF_none h2;simp only [Option.some.injEq, Prod.mk.injEq] at hx;obtain ⟨rfl, rfl⟩ := hx;exact post_none hs hl hno
  | some y =>
   obtain ⟨x, re, im⟩ := y;obtain ⟨t, ht, h9, ha, rfl, rfl, rfl, rfl⟩ := oneF_some h2;simp only [Option.some.injEq, Prod.mk.injEq] at hx;obtain ⟨rfl, rfl⟩ := hx;exact post_yes hs hl ht h9 ha
theorem st_cond {st st' : PSt} {n : Node} (hx : step s rec .cond st = some (n, st')) : HandsW s p .cond st st' n := by
 simp only [step, Option.bind_eq_bind, Option.bind_eq_some_iff, Prod.exists, Option.some.injEq, Prod.mk.injEq] at hx;obtain ⟨n1, st1, h1, _, h2, rfl, rfl⟩ := hx;exact cond_lv (hrec _ _ _ _ h1) h2
theorem st_or {st st' : PSt} {n : Node} (hx : step s rec .or st = some (n, st')) : HandsW s p .or st st' n := by
 simp only [step, Option.bind_eq_bind, Option.bind_eq_some_iff, Prod.exists, Option.some.injEq, Prod.mk.injEq] at hx;obtain ⟨n1, st1, h1, _, h2, rfl, rfl⟩ := hx;exact or_lv (hrec _ _ _ _ h1) h2
theorem st_and {st st' : PSt} {n : Node} (hx : step s rec .and st = some (n, st')) : HandsW s p .and st st' n := by
 simp only [step, Option.bind_eq_bind, Option.bind_eq_some_iff, Prod.exists, Option.some.injEq, Prod.mk.injEq] at hx;obtain ⟨n1, st1, h1, _, h2, rfl, rfl⟩ := hx;exact and_lv (hrec _ _ _ _ h1) h2
theorem st_in {st st' : PSt} {n : Node} (hx : step s rec .in st = some (n, st')) : HandsW s p .in st st' n := by
 simp only [step, Option.bind_eq_bind, Option.bind_eq_some_iff, Prod.exists, Option.some.injEq, Prod.mk.injEq] at hx;obtain ⟨n1, st1, h1, _, h2, rfl, rfl⟩ := hx;exact in_lv (hrec _ _ _ _ h1) h2
theorem st_match {st st' : PSt} {n : Node} (hx : step s rec .match st = some (n, st')) : HandsW s p .match st st' n := by
 simp only [step, Option.bind_eq_bind, Option.bind_eq_some_iff, Prod.exists, Option.some.injEq, Prod.mk.injEq] at hx;obtain ⟨n1, st1, h1, _, h2, rfl, rfl⟩ := hx;exact match_lv (hrec _ _ _ _ h1) h2
theorem st_compare {st st' : PSt} {n : Node} (hx : step s rec .compare st = some (n, st')) : HandsW s p .compare st st' n := by
 simp only [step, Option.bind_eq_bind, Option.bind_eq_some_iff, Prod.exists] at hx;obtain ⟨n1, st1, h1, hx⟩ := hx
 cases hg : st1.ng with
 | true => rw [hg] at hx; cases hx
 | false =>
  rw [hg] at hx;simp only [Bool.false_eq_true, if_false, Option.bind_eq_some_iff, Option.some.injEq, Prod.mk.injEq] at hx;obtain ⟨_, h2, rfl, rfl⟩ := hx;exact compare_false_lv (hrec _ _ _ _ h1) h2 hg
theorem st_product {st st' : PSt} {n : Node} (hx : step s rec .product st = some (n, st')) : HandsW s p .product st st' n := by
 simp only [step, Option.bind_eq_bind, Option.bind_eq_some_iff, Prod.exists, Option.some.injEq, Prod.mk.injEq] at hx;obtain ⟨n1, st1, h1, _, h2, rfl, rfl⟩ := hx;exact product_lv (hrec _ _ _ _ h1) h2
theorem st_unary {st st' : PSt} {n : Node} (hx : step s rec .unary st = some (n, st')) : HandsW s p .unary st st' n := by
 simp only [step, Option.bind_eq_bind, Option.bind_eq_some_iff] at hx;obtain ⟨_, h1, hx⟩ := hx;exact unary_lv h1 (hrec _ _ _ _ hx)
theorem st_power {st st' : PSt} {n : Node} (hx : step s rec .power st = some (n, st')) : HandsW s p .power st st' n := by
 simp only [step, Option.bind_eq_bind, Option.bind_eq_some_iff, Prod.exists, Option.some.injEq, Prod.mk.injEq] at hx;obtain ⟨n1, st1, h1, _, h2, rfl, rfl⟩ := hx;exact power_lv (hrec _ _ _ _ h1) h2
theorem st_primary {st st' : PSt} {n : Node} (hx : step s rec .primary st = some (n, st')) : HandsW s p .primary st st' n := by
 simp only [step, Option.bind_eq_bind, Option.bind_eq_some_iff] at hx;obtain ⟨_, h1, _, h2, hx⟩ := hx;exact primary_lv h1 h2 (hrec _ _ _ _ hx)
theorem st_dollar {st st' : PSt} {n : Node} (hx : step s rec .dollar st = some (n, st')) : HandsW s p .dollar st st' n := by
 simp only [step, Option.bind_eq_bind, Option.bind_eq_some_iff] at hx;obtain ⟨_, h1, _, h2, hx⟩ := hx;exact dollar_lv h1 h2 (hrec _ _ _ _ hx)
theorem st_operand {st st' : PSt} {n : Node} (hx : step s rec .operand st = some (n, st')) : HandsW s p .operand st st' n := by
 intro w h;simp only [step, Option.bind_eq_bind, Option.bind_eq_some_iff] at hx;obtain ⟨t, ht, hx⟩ := hx;have hle := (nextF_le ht h.le).2.1;obtain ⟨kd, tx, nm, fr, te⟩ := t;simp only at hx hle
 by_cases h2 : kd = 2
 ·subst h2;simp only [if_true, Option.some.injEq, Prod.mk.injEq] at hx;obtain ⟨rfl, rfl⟩ := hx;exact operand_num ht w h
 rw [if_neg h2] at hx
 by_cases h5 : kd = 5
 ·subst h5;simp only [if_true, Option.bind_eq_some_iff, Prod.exists] at hx;obtain ⟨b, st2, hb, hx⟩ := hx
  cases b with
  | true =>
   simp only [if_true, Option.bind_eq_some_iff, Prod.exists, Option.some.injEq, Prod.mk.injEq] at hx;obtain ⟨l, st3, h4, st4, hw, rfl, rfl⟩ := hx;exact operand_index ht hb (inside_any (list_any (fun a b c hh => hrec _ _ _ _ hh) h4) hw) w h
  | false =>
   simp only [Bool.false_eq_true, if_false, Option.some.injEq, Prod.mk.injEq] at hx;obtain ⟨rfl, rfl⟩ := hx;exact operand_var ht hb w h
 rw [if_neg h5] at hx
 by_cases h9 : kd = 9 ∧ same tx (bs [36]) = true
 ·rw [if_pos h9] at hx;obtain ⟨rfl, hs⟩ := h9;simp only [Option.bind_eq_some_iff, Prod.exists, Option.some.injEq, Prod.mk.injEq] at hx;obtain ⟨m, st2, hm, rfl, rfl⟩ := hx;exact operand_dollar ht (same_true hs) (hrec _ _ _ _ hm) w h
 rw [if_neg h9] at hx; cases hx
theorem st_simple {st st' : PSt} {n : Node} (hx : step s rec .simple st = some (n, st')) : HandsW s p .simple st st' n := by
 simp only [step, Option.bind_eq_bind, Option.bind_eq_some_iff, Prod.exists] at hx;obtain ⟨t, re, im, h0, _, h1, _, h2, b, st2, h3, hx⟩ := hx;obtain ⟨ht, rfl, rfl⟩ := hereF_some h0;obtain ⟨kd, tx, nm, fr, te⟩ := t
 cases b with
 | true =>
  simp only [if_true, Option.some.injEq, Prod.mk.injEq] at hx;obtain ⟨rfl, rfl⟩ := hx;exact simple_next ht h1 h2 h3
 | false =>
  simp only [Bool.false_eq_true, if_false, Option.bind_eq_some_iff, Prod.exists] at hx;obtain ⟨_, h4, _, h5, _, h6, b, st3, h7, hx⟩ := hx;have hs2 : st2 = st ∧ notF s st (bs [110, 101, 120, 116]) = some () := take_false h3;obtain ⟨rfl, h3'⟩ := hs2
  cases b with
  | true =>
   simp at hx
  | false =>
   obtain ⟨rfl, h7'⟩ := take_false h7;simp only [Bool.false_eq_true, if_false, Option.bind_eq_some_iff, Prod.exists, Option.some.injEq, Prod.mk.injEq] at hx;obtain ⟨_, h8, m, st4, h9, rfl, rfl⟩ := hx;exact simple_expr ht h1 h2 h3' h4 h5 h6 h7' h8 (hrec _ _ _ _ h9)
theorem st_stmt {st st' : PSt} {n : Node} (hx : step s rec .stmt st = some (n, st')) : HandsW s p .stmt st st' n := by
 simp only [step, Option.bind_eq_bind, Option.bind_eq_some_iff, Prod.exists, Option.some.injEq, Prod.mk.injEq] at hx;obtain ⟨t, re, im, h0, _, h1, _, h2, _, h3, _, h4, _, h5, m, st2, h6, st3, h7, rfl, rfl⟩ := hx;obtain ⟨ht, rfl, rfl⟩ := hereF_some h0;obtain ⟨kd, tx, nm, fr, te⟩ := t;exact stmt_lv ht h1 h2 h3 h4 h5 (hrec _ _ _ _ h6) h7
theorem st_block {st st' : PSt} {n : Node} (hx : step s rec .block st = some (n, st')) : HandsW s p .block st st' n := by
 simp only [step, Option.bind_eq_bind, Option.bind_eq_some_iff, Prod.exists, Option.some.injEq, Prod.mk.injEq] at hx;obtain ⟨t, re, im, h0, st1, h1, st2, h2, l, st3, h3, st4, h4, rfl, rfl⟩ := hx;obtain ⟨ht, rfl, rfl⟩ := hereF_some h0;obtain ⟨kd, tx, nm, fr, te⟩ := t;exact block_lv (fun a b c hh => hrec _ _ _ _ hh) ht h1 h2 h3 h4
theorem st_any {wh : Wh} {st st' : PSt} {n : Node} (hx : step s rec wh st = some (n, st')) : HandsW s p wh st st' n := by
 cases wh with
 | expr => exact st_expr hrec hx
 | cond => exact st_cond hrec hx
 | or => exact st_or hrec hx
 | and => exact st_and hrec hx
 | «in» => exact st_in hrec hx
 | «match» => exact st_match hrec hx
 | compare => exact st_compare hrec hx
 | concat => exact concat_lv (fun a b c hh => hrec _ _ _ _ hh) hx
 | sum => exact sum_lv (fun a b c hh => hrec _ _ _ _ hh) hx
 | product => exact st_product hrec hx
 | unary => exact st_unary hrec hx
 | power => exact st_power hrec hx
 | post => exact st_post hrec hx
 | primary => exact st_primary hrec hx
 | operand => exact st_operand hrec hx
 | dollar => exact st_dollar hrec hx
 | simple => exact st_simple hrec hx
 | stmt => exact st_stmt hrec hx
 | block => exact st_block hrec hx
end
theorem parN_hands {s : ByteArray} {p : Nat} : ∀ (k : Nat) (wh : Wh) (st st' : PSt) (n : Node), parN s k wh st = some (n, st') → HandsW s p wh st st' n
 | 0, _, _, _, _, h => by simp [parN] at h
 | k + 1, _, _, _, _, h => st_any (parN_hands k) h
def SliceR {α : Type} (E : World → (Nat → Prop) → α → List Value → Prop) (w : World) (S : Nat → Prop) (l : List α) (v : Value) : Prop :=
 ∃ a cap, v = .slice a l.length cap ∧ l.length ≤ cap ∧ (0 < l.length → ∃ g o xs, a = some ⟨g, o, none⟩ ∧ S g ∧ g < w.heap.size ∧ Elems (E w S) l xs ∧ ∀ j u, xs[j]? = some u → w.cell? ⟨g, o + j, none⟩ = some u)
section
variable {α : Type} {E : World → (Nat → Prop) → α → List Value → Prop} {size : Nat}
theorem SliceR.kp (hE : ElemL E size) {w w' : World} {S : Nat → Prop} {fp : List Nat} {l : List α} {v : Value} (h : SliceR E w S l v) (hk : Keeps fp w w') (hf : ∀ x ∈ fp, ¬ S x) : SliceR E w' S l v := by
 obtain ⟨a, cap, rfl, hcap, h⟩ := h;refine ⟨a, cap, rfl, hcap, fun h0 => ?_⟩;obtain ⟨g, o, xs, rfl, hS, hg, hx, hc⟩ := h h0
 exact ⟨g, o, xs, rfl, hS, Nat.lt_of_lt_of_le hg hk.size, hx.mono fun a c h => hE.keep h hk hf fun _ h => h, fun j u hj => by
  rw [World.cell?_of_block (w := w) (a := ⟨g, o + j, none⟩) (hk.block g hg fun hm => hf g hm hS)]; exact hc j u hj⟩
theorem SliceR.to (hE : ElemL E size) {w : World} {S T : Nat → Prop} {l : List α} {v : Value} (h : SliceR E w S l v) (hT : ∀ x, S x → T x) : SliceR E w T l v := by
 obtain ⟨a, cap, rfl, hcap, h⟩ := h;refine ⟨a, cap, rfl, hcap, fun h0 => ?_⟩;obtain ⟨g, o, xs, rfl, hS, hg, hx, hc⟩ := h h0;exact ⟨g, o, xs, rfl, hT _ hS, hg, hx.mono fun a c h => hE.keep h (Keeps.refl [] w) jg hT, hc⟩
theorem SliceR.nil {w : World} {S : Nat → Prop} {a : Option Addr} {cap : Nat} : SliceR E w S [] (.slice a 0 cap) := ⟨a, cap, rfl, Nat.zero_le _, fun h => absurd h jg⟩
theorem sliceR_of_own (hE : ElemL E size) {e : TypeId} {w : World} {b : Nat} {T : Nat → Prop} {l : List α} {v : Value} (h : OwnL E e size w b T l v) : SliceR E w T l v := by
 obtain ⟨xs, ho, ht, hx⟩ := h
 rcases ho.2 with ⟨rfl, hn⟩ | ⟨g, cap, cur, rfl, hb, hg, h1, h2, h3, h4⟩
 ·exact ⟨none, 0, by rw [hn], by omega, fun h => by omega⟩
 refine ⟨_, cap, rfl, h1, fun h0 => ⟨g, 0, xs, rfl, ht g rfl, h_lt hg, hx.mono fun a c h => hE.keep h (Keeps.refl [] w) jg fun _ h => h.1, fun j u hj => ?_⟩⟩;rw [Nat.zero_add, cell_of_heap hg];have hj2 : (cur.toList.take (l.length * size))[j]? = some u := by rw [h4]; exact hj
 exact zrd
theorem Elems.get {F : α → List Value → Prop} {k : Nat} (hlen : ∀ a c, F a c → c.length = k) {l : List α} {xs : List Value} (h : Elems F l xs) : ∀ i (hi : i < l.length), ∃ c, F l[i] c ∧ ∀ j u, c[j]? = some u → xs[i * k + j]? = some u := by
 induction h with
 | nil => intro i hi; simp at hi
 | cons h1 t ih =>
  rename_i a c l xs;intro i hi
  cases i with
  | zero =>
   refine ⟨c, h1, fun j u hj => ?_⟩;have hjl : j < c.length := (List.getElem?_eq_some_iff.1 hj).1;rw [Nat.zero_mul, Nat.zero_add, List.getElem?_append_left hjl]; exact hj
  | succ i =>
   obtain ⟨d, h2, h3⟩ := ih i (by simpa using hi);refine ⟨d, by simpa using h2, fun j u hj => ?_⟩;have h4 := h3 j u hj;have h5 := hlen _ _ h1;rw [List.getElem?_append_right (by rw [h5, Nat.add_mul]; omega), h5, show (i + 1) * k + j - k = i * k + j from by rw [Nat.add_mul]; omega];exact h4
theorem SliceR.cap {w : World} {S : Nat → Prop} {l : List α} {a : Option Addr} {n cap : Nat} (h : SliceR E w S l (.slice a n cap)) : l.length ≤ cap := by
 obtain ⟨a', cap', hv, hc, -⟩ := h;injection hv with _ _ h3
 rw [h3]; exact hc
theorem SliceR.get (hE : ElemL E size) {w : World} {S : Nat → Prop} {l : List α} {v : Value} (h : SliceR E w S l v) {i : Nat} (hi : i < l.length) : ∃ g o cap c, v = .slice (some ⟨g, o, none⟩) l.length cap ∧ S g ∧ g < w.heap.size ∧ E w S l[i] c ∧ ∀ j u, c[j]? = some u → w.cell? ⟨g, o + (i * size + j), none⟩ = some u := by
 obtain ⟨a, cap, rfl, -, h⟩ := h;obtain ⟨g, o, xs, rfl, hS, hg, hx, hc⟩ := h qg;obtain ⟨c, h1, h2⟩ := hx.get (fun a c h => hE.len h) i hi;exact ⟨g, o, cap, c, rfl, hS, hg, h1, fun j u hj => hc _ _ (h2 j u hj)⟩
end
/-! ### strings -/
def StrE (_ : World) (_ : Nat → Prop) (u : ByteArray) (c : List Value) : Prop := c = [.string u]
theorem strL : ElemL StrE 1 := {
 keep := fun h _ _ _ => h
 len := fun h => by rw [h]; rfl
 one := fun h u hu => by rw [h] at hu; simp at hu; rw [hu]; rfl
 }
theorem info9 : ∃ i, Tryz.prog.info? 9 = some i ∧ i.zero = some (.string ⟨#[]⟩) ∧ i.size = 1 ∧ i.bytes = 16 := by
 have h : (Tryz.prog.info? 9).map (fun i => (i.zero, i.size, i.bytes)) = some (some (.string ⟨#[]⟩), 1, 16) := by kernel_rfl
 cases hi : Tryz.prog.info? 9 with
 | none => rw [hi] at h; cases h
 | some i => rw [hi] at h; simp at h; exact ⟨i, rfl, h.1, h.2.1, h.2.2⟩
theorem app_str {ops : Array Oper} {rest : List Oper} {o : Oper} {a : Act} {w : World} {Q : Exit → Act → World → Prop} (hgd : o.guard = none) (s y : Operand) (ho : o.op = .call { callee := .builtin .append, args := #[s, y], argTypes := #[22, 22] }) {b G cap : Nat} {T : Nat → Prop} {l : List ByteArray} {x : ByteArray} {v : Value} (hs : a.eval s = v) (hy : a.eval y = .slice (some ⟨G, 0, none⟩) 1 cap) (hO : OwnL StrE 9 1 w b T l v) (hG : w.heap[G]? = some (.cells #[.string x] 9 (0, 0))) (hT : ∀ g, T g → g < w.heap.size) (hb : b ≤ w.heap.size) (hl : l.length ≤ 400000) (h : ∀ v' w' fl, (∀ x ∈ fl, T x) → Keeps fl w w' → OwnL StrE 9 1 w' b (fun g => T g ∨ (w.heap.size ≤ g ∧ g < w'.heap.size)) (l ++ [x]) v' → wpList Tryz.prog ops Q rest (a.put o.dst v') w') : wpList Tryz.prog ops Q (o :: rest) a w := by
 obtain ⟨i, hi, hz, hsz, hby⟩ := info9
 exact wpList_appL strL hgd s y 22 ho Tryz.underlying22 hi hz hsz hby rfl zi zi hs hy hO (S := fun _ => False) (c := [.string x]) hG rfl (fun _ h => h.elim) (fun _ h => h.elim) hT hb hl
  fun v' w' fl h1 h2 h3 => h v' w' fl h1 h2 (h3.to strL fun g hg => hg.elim .inl fun hg => hg.elim (fun h => h.elim) .inr)
/-! ### functions, rules -/
def FuncV (w : World) (S : Nat → Prop) (f : FuncP) (v : Value) : Prop :=
 ∃ pa pc b0 b1 b2 b3 b4, v = .agg #[.string f.name, .slice pa f.params.length pc, b0, b1, b2, b3, b4, .complex .f64 f.re f.im] ∧ SliceR StrE w S f.params (.slice pa f.params.length pc) ∧ NodeR w S f.body (.agg #[b0, b1, b2, b3, b4])
def FuncE (w : World) (S : Nat → Prop) (f : FuncP) (c : List Value) : Prop :=
 ∃ pa pc b0 b1 b2 b3 b4, c = [.string f.name, .slice pa f.params.length pc, b0, b1, b2, b3, b4, .complex .f64 f.re f.im] ∧ SliceR StrE w S f.params (.slice pa f.params.length pc) ∧ NodeR w S f.body (.agg #[b0, b1, b2, b3, b4])
theorem node_one {w : World} {S : Nat → Prop} {n : Node} {b0 b1 b2 b3 b4 : Value} (h : NodeR w S n (.agg #[b0, b1, b2, b3, b4])) : ∀ u ∈ [b0, b1, b2, b3, b4], u.oneCell' = true := nodeL.one (S := S) (a := n) (w := w) ⟨rfl, h⟩
theorem funcL : ElemL FuncE 8 := {
 keep := fun ⟨pa, pc, b0, b1, b2, b3, b4, h, hp, hn⟩ hk hf hS => ⟨pa, pc, b0, b1, b2, b3, b4, h, (hp.kp strL hk hf).to strL hS, hn.keep hk hf hS⟩
 len := fun ⟨_, _, _, _, _, _, _, h, _, _⟩ => by rw [h]; rfl
 one := fun ⟨_, _, _, _, _, _, _, h, _, hn⟩ u hu => by
  rw [h] at hu;simp only [List.mem_cons, List.not_mem_nil, or_false] at hu
  rcases hu with rfl | rfl | h1 | h1 | h1 | h1 | h1 | rfl
  ·rfl
  ·rfl
  all_goals first | rfl | exact node_one hn u (by simp [h1])
 }
def RuleV (w : World) (S : Nat → Prop) (r : RuleP) (v : Value) : Prop :=
 ∃ pa pc b0 b1 b2 b3 b4, v = .agg #[.int .i64 r.kind, .int .i64 r.n, .slice pa r.pats.length pc, b0, b1, b2, b3, b4, .complex .f64 r.re r.im] ∧ KidsR w S r.pats (.slice pa r.pats.length pc) ∧ NodeR w S r.body (.agg #[b0, b1, b2, b3, b4])
def RuleE (w : World) (S : Nat → Prop) (r : RuleP) (c : List Value) : Prop :=
 ∃ pa pc b0 b1 b2 b3 b4, c = [.int .i64 r.kind, .int .i64 r.n, .slice pa r.pats.length pc, b0, b1, b2, b3, b4, .complex .f64 r.re r.im] ∧ KidsR w S r.pats (.slice pa r.pats.length pc) ∧ NodeR w S r.body (.agg #[b0, b1, b2, b3, b4])
theorem ruleL : ElemL RuleE 9 := {
 keep := fun ⟨pa, pc, b0, b1, b2, b3, b4, h, hp, hn⟩ hk hf hS => ⟨pa, pc, b0, b1, b2, b3, b4, h, hp.keep hk hf hS, hn.keep hk hf hS⟩
 len := fun ⟨_, _, _, _, _, _, _, h, _, _⟩ => by rw [h]; rfl
 one := fun ⟨_, _, _, _, _, _, _, h, _, hn⟩ u hu => by
  rw [h] at hu;simp only [List.mem_cons, List.not_mem_nil, or_false] at hu
  rcases hu with rfl | rfl | rfl | h1 | h1 | h1 | h1 | h1 | rfl
  ·rfl
  ·rfl
  ·rfl
  all_goals first | rfl | exact node_one hn u (by simp [h1])
 }
theorem FuncV.kp {w w' : World} {S : Nat → Prop} {fp : List Nat} {f : FuncP} {v : Value} (h : FuncV w S f v) (hk : Keeps fp w w') (hf : ∀ x ∈ fp, ¬ S x) : FuncV w' S f v := by
 obtain ⟨pa, pc, b0, b1, b2, b3, b4, h, hp, hn⟩ := h;exact ⟨pa, pc, b0, b1, b2, b3, b4, h, hp.kp strL hk hf, hn.kp hk hf⟩
theorem FuncV.to {w : World} {S T : Nat → Prop} {f : FuncP} {v : Value} (h : FuncV w S f v) (hT : ∀ x, S x → T x) : FuncV w T f v := by
 obtain ⟨pa, pc, b0, b1, b2, b3, b4, h, hp, hn⟩ := h;exact ⟨pa, pc, b0, b1, b2, b3, b4, h, hp.to strL hT, hn.to hT⟩
theorem RuleV.kp {w w' : World} {S : Nat → Prop} {fp : List Nat} {f : RuleP} {v : Value} (h : RuleV w S f v) (hk : Keeps fp w w') (hf : ∀ x ∈ fp, ¬ S x) : RuleV w' S f v := by
 obtain ⟨pa, pc, b0, b1, b2, b3, b4, h, hp, hn⟩ := h;exact ⟨pa, pc, b0, b1, b2, b3, b4, h, hp.kp hk hf, hn.kp hk hf⟩
theorem RuleV.to {w : World} {S T : Nat → Prop} {f : RuleP} {v : Value} (h : RuleV w S f v) (hT : ∀ x, S x → T x) : RuleV w T f v := by
 obtain ⟨pa, pc, b0, b1, b2, b3, b4, h, hp, hn⟩ := h;exact ⟨pa, pc, b0, b1, b2, b3, b4, h, hp.to hT, hn.to hT⟩
theorem KidsR.shape {w : World} {S : Nat → Prop} {ns : List Node} {v : Value} (h : KidsR w S ns v) : ∃ a cap, v = .slice a ns.length cap := by
 cases h with
 | nil => exact ⟨_, _, rfl⟩
 | some hS hg h => exact ⟨_, _, rfl⟩
theorem SliceR.seg {α : Type} {E : World → (Nat → Prop) → α → List Value → Prop} {size : Nat} (_ : ElemL E size) (hs : ∀ {w : World} {S : Nat → Prop} {a : α} {c : List Value}, E w S a c → E w (fun g => S g ∧ g < w.heap.size) a c) {w : World} {S : Nat → Prop} {l : List α} {v : Value} (h : SliceR E w S l v) : SliceR E w (fun g => S g ∧ g < w.heap.size) l v := by
 obtain ⟨a, cap, rfl, hcap, h⟩ := h;refine ⟨a, cap, rfl, hcap, fun h0 => ?_⟩;obtain ⟨g, o, xs, rfl, hS, hg, hx, hc⟩ := h h0;exact ⟨g, o, xs, rfl, ⟨hS, hg⟩, hg, hx.mono fun a c h => hs h, hc⟩
theorem FuncV.seg {w : World} {a : Nat} {f : FuncP} {v : Value} (h : FuncV w (fun g => a ≤ g) f v) : FuncV w (Seg a w.heap.size) f v := by
 obtain ⟨pa, pc, b0, b1, b2, b3, b4, h, hp, hn⟩ := h;exact ⟨pa, pc, b0, b1, b2, b3, b4, h, hp.seg strL (fun h => h), hn.seg⟩
theorem RuleV.seg {w : World} {a : Nat} {f : RuleP} {v : Value} (h : RuleV w (fun g => a ≤ g) f v) : RuleV w (Seg a w.heap.size) f v := by
 obtain ⟨pa, pc, b0, b1, b2, b3, b4, h, hp, hn⟩ := h;exact ⟨pa, pc, b0, b1, b2, b3, b4, h, hp.seg, hn.seg⟩
theorem step_at {P : Program} {ops : Array Oper} {o : Oper} {a : Act} {K : Act → World → Prop} {Q : Exit → Act → World → Prop} {Z : Prop} {W : World} (F : World → Prop) (hF : F W)
 (h : ∀ W', F W' → if Region.wanted o (yielded ops a.tmps) = true then Oper.wp P o a W' K Q else Z) : if Region.wanted o (yielded ops a.tmps) = true then Oper.wp P o a W K Q else Z := h W hF
end Go.Proofs.YtkfillfkbhbbjaaGreatDoor
